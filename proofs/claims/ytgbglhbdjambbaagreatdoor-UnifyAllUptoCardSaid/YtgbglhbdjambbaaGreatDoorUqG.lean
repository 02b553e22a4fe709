/- Part 7 of the proof: the program's functions as Lean functions with their walks, and the plain law. It holds for every input, without conditions. -/
import Derived.Lib.LaidTab
import Derived.Lib.ItoaNum
import Derived.KernelRfl
import Derived.Stop.LaidErr
import Derived.Test.YtgbglhbdjambbaaGreatDoorRows
import Derived.Test.YtgbglhbdjambbaaGreatDoorUqA
import Derived.Test.YtgbglhbdjambbaaGreatDoorUqB
import Derived.Test.YtgbglhbdjambbaaGreatDoorUqC
import Derived.Test.YtgbglhbdjambbaaGreatDoorUqD
import Derived.Test.YtgbglhbdjambbaaGreatDoorUqE
import Derived.Test.YtgbglhbdjambbaaGreatDoorUqF
set_option linter.unusedVariables false
set_option linter.unusedSimpArgs false
set_option maxRecDepth 100000
set_option maxHeartbeats 4000000
set_option synthInstance.maxHeartbeats 1000000
set_option synthInstance.maxSize 1000
namespace Go.Proofs.YtgbglhbdjambbaaGreatDoor
open Go Go.Am
def Zau : Option (Bool) :=
 Zdj (ByteArray.mk #[73, 110, 116]) >>= fun r1 =>
 ZbI (Za.mk 1 (ByteArray.mk #[97]) (Zk.mk ([] : List Zk)) ([] : List Za)) r1 >>= fun r2 =>
 Zdj (ByteArray.mk #[91, 93]) >>= fun r3 =>
 ZbI (Za.mk 1 (ByteArray.mk #[97]) (Zk.mk ([] : List Zk)) ([] : List Za)) (Za.mk 3 (ByteArray.mk #[]) (Zk.mk ([] : List Zk)) ([r3, (Za.mk 1 (ByteArray.mk #[97]) (Zk.mk ([] : List Zk)) ([] : List Za))])) >>= fun r4 =>
 Zdj (ByteArray.mk #[73, 110, 116]) >>= fun r5 =>
 Zdj (ByteArray.mk #[66, 111, 111, 108]) >>= fun r6 =>
 ZbI r5 r6 >>= fun r7 =>
 (if ((r2.2 == 0) && (((r2.1.length : Nat) : Int) == 1)) = true then (ixI r2.1 0) >>= fun x9 =>
 some (x9.fName.toList == (ByteArray.mk #[97]).toList) else some false) >>= fun c10 =>
 (if c10 = true then (ixI r2.1 0) >>= fun x11 =>
 some (x11.fType.fName.toList == (ByteArray.mk #[73, 110, 116]).toList) else some false) >>= fun c12 =>
 some ((c12 && (r4.2 == 23)) && (r7.2 == 22))
def Zau.M (r : Bool) : Prop :=
 Zj Tryz.prog 11 [] [] (fun d b => d = .c none (.v (.bool r)) ∧ b = [])
theorem Zdh (r : Bool) (hF : Zau = some r) : Zau.M r := by
 unfold Zau at hF
 unfold Zau.M
 refine en Tryz.func11 ?_
 refine AWP.seq ?_
 refine ns ?_
 refine AWP.seq ?_
 refine ns ?_
 refine AWP.seq ?_
 obtain ⟨r1, hr1, hF⟩ := bind_some hF
 obtain ⟨r2, hr2, hF⟩ := bind_some hF
 refine nn ?_
 refine Or.inl (Exists.intro 7 (Exists.intro [[], [], [], [], [], [], []] (Exists.intro [([10, 11, 12, 9, 13, 14, 2], [], []), ([10, 11, 12, 9, 13, 14, 2], [], []), ([12, 9, 13, 14, 2], [], []), ([9, 13, 14, 2], [], []), ([13, 14, 2], [], []), ([13, 14, 2], [], []), ([14, 2], [], [])] (Exists.intro [10, 11, 12, 9, 13, 14, 2] (And.intro (by decide +kernel) ?_)))))
 refine dp ?_
 (refine st ?_; apply Exists.intro; apply Exists.intro; apply And.intro; (focus ((conv => whnf); refine Exists.intro [] ?_; (conv => whnf); refine And.intro rfl ?_; (conv => whnf); refine Zj.mono (Zj.weak (rn []) (ZfO (ByteArray.mk #[73, 110, 116]) _ hr1) rfl (WS.mk (tc Zb) Zc)) ?_; rintro d b ⟨rfl, rfl⟩; exact And.intro rfl (And.intro rfl rfl))); apply And.intro; (focus exact rfl); (conv => whnf))
 (refine st ?_; apply Exists.intro; apply Exists.intro; apply And.intro; (focus ((conv => whnf); refine Exists.intro [] ?_; (conv => whnf); refine And.intro rfl ?_; (conv => whnf); refine Zj.mono (Zj.weak (rn []) (Zf9 (Za.mk 1 (ByteArray.mk #[97]) (Zk.mk ([] : List Zk)) ([] : List Za)) r1 _ hr2) rfl (WS.mk (Zd (Zt (lc (lc (ZaR WE.nil (ZaR WE.nil Zo))))) (Zd (Zt (lc (lc (lc (lc Zo))))) Zb)) Zc)) ?_; rintro d b ⟨rfl, rfl⟩; exact And.intro rfl (And.intro rfl rfl))); apply And.intro; (focus exact rfl); (conv => whnf))
 refine dp ?_
 refine dp ?_
 refine dp ?_
 refine dp ?_
 refine st ?_
 refine AWP.seq ?_
 obtain ⟨r3, hr3, hF⟩ := bind_some hF
 obtain ⟨r4, hr4, hF⟩ := bind_some hF
 refine nn ?_
 refine Or.inl (Exists.intro 10 (Exists.intro [[], [], [], [], [], [], [], [], [], []] (Exists.intro [([16, 17, 18, 19, 20, 21, 15, 22, 23, 4], [], []), ([16, 17, 18, 19, 20, 21, 15, 22, 23, 4], [], []), ([16, 17, 18, 19, 20, 21, 15, 22, 23, 4], [], []), ([16, 19, 20, 21, 15, 22, 23, 4], [], []), ([16, 20, 21, 15, 22, 23, 4], [], []), ([21, 15, 22, 23, 4], [], []), ([15, 22, 23, 4], [], []), ([22, 23, 4], [], []), ([22, 23, 4], [], []), ([23, 4], [], [])] (Exists.intro [16, 17, 18, 19, 20, 21, 15, 22, 23, 4] (And.intro (by decide +kernel) ?_)))))
 refine dp ?_
 (refine st ?_; apply Exists.intro; apply Exists.intro; apply And.intro; (focus ((conv => whnf); refine Exists.intro [] ?_; (conv => whnf); refine And.intro rfl ?_; (conv => whnf); refine Zj.mono (Zj.weak (rn []) (ZfO (ByteArray.mk #[91, 93]) _ hr3) rfl (WS.mk (tc Zb) Zc)) ?_; rintro d b ⟨rfl, rfl⟩; exact And.intro rfl (And.intro rfl rfl))); apply And.intro; (focus exact rfl); (conv => whnf))
 refine dp ?_
 refine de (Zbs (f := Za.cells) (ZdA (Za.cells_eq r3) (lc (lc (lc (lc Zo))))) (Zbs (f := Za.cells) (ZdA (Za.cells_eq (Za.mk 1 (ByteArray.mk #[97]) (Zk.mk ([] : List Zk)) ([] : List Za))) (lc (lc (ZaR WE.nil (ZaR WE.nil Zo))))) (ZY (f := Za.cells)))) ?_
 refine dp ?_
 (refine st ?_; apply Exists.intro; apply Exists.intro; apply And.intro; (focus ((conv => whnf); refine Exists.intro [] ?_; (conv => whnf); refine And.intro rfl ?_; (conv => whnf); refine Zj.mono (Zj.weak (rn []) (Zf9 (Za.mk 1 (ByteArray.mk #[97]) (Zk.mk ([] : List Zk)) ([] : List Za)) (Za.mk 3 (ByteArray.mk #[]) (Zk.mk ([] : List Zk)) ([r3, (Za.mk 1 (ByteArray.mk #[97]) (Zk.mk ([] : List Zk)) ([] : List Za))])) _ hr4) rfl (WS.mk (Zd (Zt (lc (lc (ZaR WE.nil (ZaR WE.nil Zo))))) (Zd (Zt (lc (lc (ZaR WE.nil (lc Zo))))) Zb)) Zc)) ?_; rintro d b ⟨rfl, rfl⟩; exact And.intro rfl (And.intro rfl rfl))); apply And.intro; (focus exact rfl); (conv => whnf))
 refine dp ?_
 refine dp ?_
 refine dp ?_
 refine dp ?_
 refine st ?_
 refine AWP.seq ?_
 obtain ⟨r5, hr5, hF⟩ := bind_some hF
 obtain ⟨r6, hr6, hF⟩ := bind_some hF
 obtain ⟨r7, hr7, hF⟩ := bind_some hF
 refine ns ?_
 refine e3 ?_
 refine st ?_
 refine cm (Zj.weak (rn []) (ZfO (ByteArray.mk #[73, 110, 116]) _ hr5) rfl (WS.mk (tc Zb) Zc)) ?_
 refine st ?_
 refine e3 ?_
 refine st ?_
 refine cm (Zj.weak (rn []) (ZfO (ByteArray.mk #[66, 111, 111, 108]) _ hr6) rfl (WS.mk (tc Zb) Zc)) ?_
 refine st ?_
 refine e3 ?_
 refine st ?_
 refine cm (Zj.weak (rn []) (Zf9 r5 r6 _ hr7) rfl (WS.mk (Zd (Zt (lc (lc (lc (lc Zo))))) (Zd (Zt (lc (lc (lc (lc Zo))))) Zb)) Zc)) ?_
 refine st ?_
 refine AWP.seq ?_
 obtain ⟨c10, Zdt, hF⟩ := bind_some hF
 obtain ⟨c12, ZcJ, hF⟩ := bind_some hF
 refine AWP.cutN (fun T => ∃ r, WS r T ⟨[(0, .c none (.v (.bool ((c12 && (r4.2 == 23)) && (r7.2 == 22)))))], []⟩) ?_ (fun T hw => ?_)
 ·refine ns ?_
  refine Zm true (fun ZbB => ?_) (fun ZbB => ?_)
  ·(conv => whnf)
   refine st ?_
   intro hlen8
   (try rw [List.length_map] at hlen8)
   (try rw [List.length_map])
   refine st ?_
   refine Zm true (fun Zdk => ?_) (fun Zdk => ?_)
   ·have Zdt := ift (And.intro ZbB Zdk) Zdt
    obtain ⟨x9, hx90, hx9, Zdt⟩ := ZcL Zdt
    (conv => whnf)
    refine sr (ZbX (f := Ze.cells) (Ze.cells_eq x9) hx9) ?_
    obtain rfl := Zg Zdt
    refine st ?_
    refine Zm true (fun Zfg => ?_) (fun Zfg => ?_)
    ·have ZcJ := ift (And.intro ZbB (And.intro Zdk Zfg)) ZcJ
     obtain ⟨x11, hx110, ZIi, ZcJ⟩ := ZcL ZcJ
     (conv => whnf)
     refine sr (ZbX (f := Ze.cells) (Ze.cells_eq x11) ZIi) ?_
     obtain rfl := Zg ZcJ
     refine st ?_
     refine Zm true (fun Zgv => ?_) (fun Zgv => ?_)
     ·(conv => whnf)
      refine st ?_
      refine Zm true (fun ZiP => ?_) (fun ZiP => ?_)
      ·(conv => whnf)
       refine st ?_
       exact wx (WS.mk (Zd (Zr (web (And.intro ZbB (And.intro Zdk (And.intro Zfg (And.intro Zgv ZiP)))))) Zb) Zc)
      ·(conv => whnf)
       refine st ?_
       exact wx (WS.mk (Zd (Zr (web (And.intro ZbB (And.intro Zdk (And.intro Zfg (And.intro Zgv ZiP)))))) Zb) Zc)
     ·(conv => whnf)
      refine st ?_
      exact wx (WS.mk (Zd (Zr (web (And.intro ZbB (And.intro Zdk (And.intro Zfg Zgv))))) Zb) Zc)
    ·have ZcJ := ife (And.intro ZbB (And.intro Zdk Zfg)) ZcJ
     (conv => whnf)
     obtain rfl := Zg ZcJ
     refine st ?_
     exact wx (WS.mk (Zd (Zr (web (And.intro ZbB (And.intro Zdk Zfg)))) Zb) Zc)
   ·have Zdt := ife (And.intro ZbB Zdk) Zdt
    (conv => whnf)
    obtain rfl := Zg Zdt
    have ZcJ := ife (And.intro ZbB Zdk) ZcJ
    obtain rfl := Zg ZcJ
    refine st ?_
    exact wx (WS.mk (Zd (Zr (web (And.intro ZbB Zdk))) Zb) Zc)
  ·(conv => whnf)
   have Zdt := ife ZbB Zdt
   obtain rfl := Zg Zdt
   have ZcJ := ife ZbB ZcJ
   obtain rfl := Zg ZcJ
   refine st ?_
   exact wx (WS.mk (Zd (Zr (web ZbB)) Zb) Zc)
 obtain ⟨r0, hw⟩ := hw
 (conv => whnf)
 refine AWP.weak r0 hw ?_
 obtain rfl := Zg hF
 refine ns ?_
 refine Exists.intro [] ?_
 refine st ?_
 exact wx (WS.mk (tc Zb) Zc)

def Zbd (l : (List Za)) (n_3 : Int) (i_4 : Nat) (ZaO : (List Za)) : Option (Bool) :=
 (match ZaO with
 | x22 :: Zvv =>
 ZaK x22 >>= fun r25 =>
 ZaH x22 >>= fun r26 =>
 if (decide (r26 > 110)) = true then
 some false
 else
 Zbd l (IntKind.i64.wrap (n_3 + r25)) (i_4 + 1) Zvv
 | [] =>
 some (decide (n_3 ≤ 400)))
 partial_fixpoint
def Zbd.M (l : (List Za)) (n_3 : Int) (i_4 : Nat) (ZaO : (List Za)) (r : Bool) : Prop :=
 ∀ Zdw : List Za, l = Zdw ++ ZaO → i_4 = Zdw.length → AWL Tryz.prog 26 (Code.sub (Zq Tryz.f10) [1, 1, 0, 1, 0, 0]) (Code.cont Tryz.prog 26 (Zq Tryz.f10) [1, 1, 0, 1, 0] (ZbW tab Tryz.f10.results (ZbY (.c none (.v (.bool r))) []))) ⟨[(0, .c none (.sl (l.map Za.cells))), (3, .c none (.v (.int .i64 n_3))), (4, .c none (.v (.int .i64 ((i_4 : Nat) : Int))))], []⟩
theorem ZlE (l : (List Za)) (n_3 : Int) (i_4 : Nat) (ZaO : (List Za)) : ∀ r, Zbd l n_3 i_4 ZaO = some r → Zbd.M l n_3 i_4 ZaO r := by
 refine Zbd.partial_correctness l (fun n_3 i_4 ZaO r => Zbd.M l n_3 i_4 ZaO r) ?_ n_3 i_4 ZaO
 intro lazyclaw18_small_l1' Zhh n_3 i_4 ZaO r hF
 have Zle := fun (_l : (List Za)) (n_3 : Int) (i_4 : Nat) (ZaO : (List Za)) => Zhh n_3 i_4 ZaO
 clear Zhh
 unfold Zbd.M
 intro Zdw ZhS Zhw
 refine AWL.step ?_
 refine AWP.seq ?_
 refine AWP.seq ?_
 refine ns ?_
 intro hlen21
 (try rw [List.length_map] at hlen21)
 (try rw [List.length_map])
 refine st ?_
 refine nw ?_
 refine ZN ZhS Zhw (fun x22 Zvv ZvC ZBL ZCA => ?_) (fun ZvC => ?_)
 ·subst ZvC
  refine nw ?_
  refine AWP.seq ?_
  refine AWP.block ?_
  refine AWP.seq ?_
  obtain ⟨r25, ZCc, hF⟩ := bind_some hF
  refine nn ?_
  refine sr (Zab (f := Za.cells) (Za.cells_eq x22) ZBL) ?_
  refine st ?_
  refine e3 ?_
  refine st ?_
  refine cm (Zj.weak (rn []) (ZgZ x22 _ ZCc) rfl (WS.mk (Zd (Zt (lc (lc (lc (lc Zo))))) Zb) Zc)) ?_
  refine st ?_
  refine AWP.seq ?_
  obtain ⟨r26, ZGP, hF⟩ := bind_some hF
  refine nn ?_
  refine sr (Zab (f := Za.cells) (Za.cells_eq x22) ZBL) ?_
  refine st ?_
  refine e3 ?_
  refine st ?_
  refine cm (Zj.weak (rn []) (Zgt x22 _ ZGP) rfl (WS.mk (Zd (Zt (lc (lc (lc (lc Zo))))) Zb) Zc)) ?_
  refine st ?_
  refine nw ?_
  refine Zi hF (fun Zto hF => ?_) (fun Zto hF => ?_)
  ·refine AWP.seq ?_
   refine ns ?_
   obtain rfl := Zg hF
   refine ns ?_
   refine Exists.intro [] ?_
   refine st ?_
   exact wx (WS.mk (tc Zb) Zc)
  ·refine nw ?_
   refine ns ?_
   refine AWL.weak (rn []) ?_ (Zle l (IntKind.i64.wrap (n_3 + r25)) (i_4 + 1) Zvv _ hF (Zdw ++ [x22]) (by rw [ZhS]; simp) (by rw [Zhw]; simp))
   exact (WS.mk (tc (tc (Zd (Zr (Zdf (ZV hlen21 ZCA))) Zb))) Zc)
 ·subst ZvC
  refine nw ?_
  refine AWP.seq ?_
  refine ns ?_
  obtain rfl := Zg hF
  refine ns ?_
  refine Exists.intro [] ?_
  refine st ?_
  exact wx (WS.mk (tc Zb) Zc)

def Zb8 (l : (List Za)) : Option (Bool) :=
 Zbd l 0 0 l
def Zb8.M (l : (List Za)) (r : Bool) : Prop :=
 Zj Tryz.prog 10 [.c none (.sl (l.map Za.cells))] [] (fun d b => d = .c none (.v (.bool r)) ∧ b = [])
theorem Zgx (l : (List Za)) (r : Bool) (hF : Zb8 l = some r) : Zb8.M l r := by
 unfold Zb8 at hF
 unfold Zb8.M
 refine en Tryz.func10 ?_
 refine AWP.seq ?_
 refine ns ?_
 refine AWP.seq ?_
 refine ns ?_
 refine AWP.seq ?_
 refine AWP.seq ?_
 refine ns ?_
 refine AWP.block ?_
 refine AWP.loop ?_
 refine AWL.weak (rn []) ?_ (ZlE l 0 0 l _ hF ([]) rfl rfl)
 exact (WS.mk (tc (tc (tc Zb))) Zc)

def ZbU (a : Za) (b : Za) : Option (Bool) :=
 Zb8 ([a, b]) >>= fun r4 =>
 if (!r4) = true then
 Zau >>= fun r6 =>
 some r6
 else
 ZbI a b >>= fun r7 =>
 ZdR a b >>= fun r8 =>
 (if (r7.2 == r8.2) = true then ZbL r7.1 r8.1 >>= fun r9 =>
 some r9 else some false) >>= fun c10 =>
 (if c10 = true then Zau >>= fun r11 =>
 some r11 else some false) >>= fun c12 =>
 some c12
def ZbU.M (a : Za) (b : Za) (r : Bool) : Prop :=
 Zj Tryz.prog 3 [.agg [.v (.int .i64 a.fOp), .v (.string a.fName), .sl (a.fBound.fArgs.map Zk.cells), .sl (a.fKids.map Za.cells)], .agg [.v (.int .i64 b.fOp), .v (.string b.fName), .sl (b.fBound.fArgs.map Zk.cells), .sl (b.fKids.map Za.cells)]] [] (fun d b => d = .c none (.v (.bool r)) ∧ b = [])
theorem Zj5 (a : Za) (b : Za) (r : Bool) (hF : ZbU a b = some r) : ZbU.M a b r := by
 unfold ZbU at hF
 unfold ZbU.M
 refine en Tryz.func3 ?_
 refine AWP.seq ?_
 refine ns ?_
 refine AWP.seq ?_
 refine AWP.seq ?_
 obtain ⟨r4, hr4, hF⟩ := bind_some hF
 refine ns ?_
 refine Exists.intro _ (And.intro (Zbs (f := Za.cells) (ZdA (Za.cells_eq a) (lc (lc (lc (lc Zo))))) (Zbs (f := Za.cells) (ZdA (Za.cells_eq b) (lc (lc (lc (lc Zo))))) (ZY (f := Za.cells)))) ?_)
 refine st ?_
 refine Exists.intro [11] (Exists.intro [] (Exists.intro [] ?_))
 refine st ?_
 refine cm (Zj.weak (rn []) (Zgx ([a, b]) _ hr4) rfl (WS.mk (tc Zb) Zc)) ?_
 refine st ?_
 refine nw ?_
 refine Zi hF (fun hc5 hF => ?_) (fun hc5 hF => ?_)
 ·refine AWP.seq ?_
  obtain ⟨r6, hr6, hF⟩ := bind_some hF
  refine ns ?_
  refine e3 ?_
  refine st ?_
  refine cm (Zj.weak (rn []) (Zdh _ hr6) rfl (WS.mk Zb Zc)) ?_
  refine st ?_
  obtain rfl := Zg hF
  refine ns ?_
  refine Exists.intro [] ?_
  refine st ?_
  exact wx (WS.mk (tc Zb) Zc)
 ·refine nw ?_
  refine AWP.seq ?_
  obtain ⟨r7, hr7, hF⟩ := bind_some hF
  refine ns ?_
  refine e3 ?_
  refine st ?_
  refine cm (Zj.weak (rn []) (Zf9 a b _ hr7) rfl (WS.mk (Zd (Zt (lc (lc (lc (lc Zo))))) (Zd (Zt (lc (lc (lc (lc Zo))))) Zb)) Zc)) ?_
  refine st ?_
  refine AWP.seq ?_
  obtain ⟨r8, hr8, hF⟩ := bind_some hF
  refine ns ?_
  refine e3 ?_
  refine st ?_
  refine cm (Zj.weak (rn []) (ZnP a b _ hr8) rfl (WS.mk (Zd (Zt (lc (lc (lc (lc Zo))))) (Zd (Zt (lc (lc (lc (lc Zo))))) Zb)) Zc)) ?_
  refine st ?_
  refine AWP.seq ?_
  obtain ⟨c10, Zdt, hF⟩ := bind_some hF
  obtain ⟨c12, ZcJ, hF⟩ := bind_some hF
  refine AWP.cutN (fun T => ∃ r, WS r T ⟨[(4, .c none (.v (.bool c12)))], []⟩) ?_ (fun T hw => ?_)
  ·refine ns ?_
   refine Zm true (fun ZbB => ?_) (fun ZbB => ?_)
   ·have Zdt := ift ZbB Zdt
    obtain ⟨r9, hr9, Zdt⟩ := bind_some Zdt
    (conv => whnf)
    refine st ?_
    refine e3 ?_
    refine st ?_
    refine cm (Zj.weak (rn []) (ZjK r7.1 r8.1 _ hr9) rfl (WS.mk (tc (tc Zb)) Zc)) ?_
    refine st ?_
    obtain rfl := Zg Zdt
    refine st ?_
    refine Zm true (fun Zdk => ?_) (fun Zdk => ?_)
    ·have ZcJ := ift (And.intro ZbB Zdk) ZcJ
     obtain ⟨r11, Zvt, ZcJ⟩ := bind_some ZcJ
     (conv => whnf)
     refine st ?_
     refine e3 ?_
     refine st ?_
     refine cm (Zj.weak (rn []) (Zdh _ Zvt) rfl (WS.mk Zb Zc)) ?_
     refine st ?_
     obtain rfl := Zg ZcJ
     refine st ?_
     exact wx (WS.mk (Zd (Zr (web (And.intro ZbB Zdk))) Zb) Zc)
    ·have ZcJ := ife (And.intro ZbB Zdk) ZcJ
     (conv => whnf)
     obtain rfl := Zg ZcJ
     refine st ?_
     exact wx (WS.mk (Zd (Zr (web (And.intro ZbB Zdk))) Zb) Zc)
   ·have Zdt := ife ZbB Zdt
    (conv => whnf)
    obtain rfl := Zg Zdt
    have ZcJ := ife ZbB ZcJ
    obtain rfl := Zg ZcJ
    refine st ?_
    exact wx (WS.mk (Zd (Zr (web ZbB)) Zb) Zc)
  obtain ⟨r0, hw⟩ := hw
  (conv => whnf)
  refine AWP.weak r0 hw ?_
  obtain rfl := Zg hF
  refine ns ?_
  refine Exists.intro [] ?_
  refine st ?_
  exact wx (WS.mk (tc Zb) Zc)

def ZaC (pairs : (List Zl)) (l_3 : (List Za)) (i_4 : Nat) : Option (Bool) :=
 if ((decide (((i_4 : Nat) : Int) < ((pairs.length : Nat) : Int))) && (decide (((i_4 : Nat) : Int) < 31))) = true then
 (pairs[i_4]?) >>= fun x62 =>
 (pairs[i_4]?) >>= fun x63 =>
 Z4 ((l_3.length + ([x62.e0, x63.e1]).length) * 72 ≤ 140737488355328) >>= fun _ =>
 Z4 (i_4 + 1 ≤ 9223372036854775807) >>= fun _ =>
 ZaC pairs (l_3 ++ ([x62.e0, x63.e1])) (i_4 + 1)
 else
 (if (decide (((pairs.length : Nat) : Int) > 30)) = true then some true else Zb8 l_3 >>= fun r72 =>
 some (!r72)) >>= fun c73 =>
 if c73 = true then
 Zau >>= fun r76 =>
 some r76
 else
 Zfc pairs >>= fun r77 =>
 ZcN pairs >>= fun r78 =>
 (if (r77.2 == r78.2) = true then ZbL r77.1 r78.1 >>= fun r79 =>
 some r79 else some false) >>= fun c80 =>
 (if c80 = true then Zau >>= fun r81 =>
 some r81 else some false) >>= fun c82 =>
 some c82
 partial_fixpoint
def ZaC.M (pairs : (List Zl)) (l_3 : (List Za)) (i_4 : Nat) (r : Bool) : Prop :=
 AWL Tryz.prog 63 (Code.sub (Zq Tryz.f4) [1, 1, 0, 1, 0, 0]) (Code.cont Tryz.prog 63 (Zq Tryz.f4) [1, 1, 0, 1, 0] (ZbW tab Tryz.f4.results (ZbY (.c none (.v (.bool r))) []))) ⟨[(0, .c none (.sl (pairs.map Zl.cells))), (3, .c (some (3, 28)) (.sl (l_3.map Za.cells))), (4, .c none (.v (.int .i64 ((i_4 : Nat) : Int))))], []⟩
theorem Zj0 (pairs : (List Zl)) (l_3 : (List Za)) (i_4 : Nat) : ∀ r, ZaC pairs l_3 i_4 = some r → ZaC.M pairs l_3 i_4 r := by
 refine ZaC.partial_correctness pairs (fun l_3 i_4 r => ZaC.M pairs l_3 i_4 r) ?_ l_3 i_4
 intro lazyclaw18_UnifyAll_l1' Zf2 l_3 i_4 r hF
 have Zj4 := fun (_pairs : (List Zl)) (l_3 : (List Za)) (i_4 : Nat) => Zf2 l_3 i_4
 clear Zf2
 unfold ZaC.M
 refine AWL.step ?_
 refine AWP.seq ?_
 refine AWP.seq ?_
 refine AWP.cutN (fun T => ∃ r, WS r T ⟨[(0, .c none (.sl (pairs.map Zl.cells))), (3, .c (some (3, 28)) (.sl (l_3.map Za.cells))), (4, .c none (.v (.int .i64 ((i_4 : Nat) : Int)))), (17, .c none (.v (.bool ((decide (((i_4 : Nat) : Int) < ((pairs.length : Nat) : Int))) && (decide (((i_4 : Nat) : Int) < 31))))))], []⟩) ?_ (fun T hw => ?_)
 ·refine ns ?_
  intro hlen56
  (try rw [List.length_map] at hlen56)
  (try rw [List.length_map])
  refine st ?_
  refine Zm true (fun Zig => ?_) (fun Zig => ?_)
  ·(conv => whnf)
   refine st ?_
   exact Exists.intro (rn [(3, 3)]) (WS.mk (tc (Zd (Zal rfl (WE.refl _)) (tc (Zd (Zr (web Zig)) Zb)))) Zc)
  ·(conv => whnf)
   refine st ?_
   exact Exists.intro (rn [(3, 3)]) (WS.mk (tc (Zd (Zal rfl (WE.refl _)) (tc (Zd (Zr (web Zig)) Zb)))) Zc)
 obtain ⟨r0, hw⟩ := hw
 (conv => whnf)
 refine AWP.weak r0 hw ?_
 refine nw ?_
 refine Zi hF (fun Zm4 hF => ?_) (fun Zm4 hF => ?_)
 ·refine nw ?_
  refine AWP.seq ?_
  refine AWP.block ?_
  obtain ⟨x62, ZDc, hF⟩ := bind_some hF
  obtain ⟨x63, ZIF, hF⟩ := bind_some hF
  obtain ⟨ZH5, hF⟩ := Zy hF
  refine nn ?_
  refine Or.inl (Exists.intro 12 (Exists.intro [[], [], [], [], [], [], [], [], [], [], [], []] (Exists.intro [([20, 21, 22, 23, 24, 25, 26, 27, 28, 29, 30, 31], [], []), ([20, 21, 22, 23, 24, 25, 26, 27, 28, 29, 30, 31], [], []), ([20, 21, 22, 23, 24, 25, 26, 27, 28, 29, 30, 31], [], []), ([20, 23, 24, 25, 26, 27, 28, 29, 30, 31], [], []), ([20, 24, 25, 26, 27, 28, 29, 30, 31], [], []), ([20, 25, 26, 27, 28, 29, 30, 31], [], []), ([20, 21, 22, 23, 24, 25, 26, 27, 28, 29, 30, 31], [], []), ([20, 21, 22, 23, 24, 25, 26, 27, 28, 29, 30, 31], [], []), ([20, 21, 22, 23, 24, 25, 28, 29, 30, 31], [], []), ([20, 21, 22, 23, 24, 25, 29, 30, 31], [], []), ([20, 21, 22, 23, 24, 25, 30, 31], [], []), ([20, 31], [], [])] (Exists.intro [20, 21, 22, 23, 24, 25, 26, 27, 28, 29, 30, 31] (And.intro (by decide +kernel) ?_)))))
  refine dp ?_
  refine dp ?_
  refine dp ?_
  refine dr (Zab (Zl.cells_eq x62) ZDc) ?_
  refine dp ?_
  refine dp ?_
  refine dp ?_
  refine dp ?_
  refine dr (Zab (Zl.cells_eq x63) ZIF) ?_
  refine dp ?_
  refine dp ?_
  refine de (Zbs (f := Za.cells) (ZdA (Za.cells_eq x62.e0) (lc (lc (lc (lc Zo))))) (Zbs (f := Za.cells) (ZdA (Za.cells_eq x63.e1) (lc (lc (lc (lc Zo))))) (ZY (f := Za.cells)))) ?_
  refine sa (fun l => ZbO l (fun x => Za.cells_len x)) ZH5 ?_
  refine Exists.intro _ (And.intro (WE.refl _) ?_)
  rw [← List.map_append]
  refine st ?_
  obtain ⟨ZCG, hF⟩ := Zy hF
  refine ns ?_
  refine AWL.weak (rn [(32, 3)]) ?_ (Zj4 pairs (l_3 ++ ([x62.e0, x63.e1])) (i_4 + 1) _ hF)
  exact (WS.mk (tc (Zd (Zal rfl (WE.refl _)) (Zd (Zr (Zdf (Zdv ZCG))) Zb))) Zc)
 ·refine nw ?_
  refine AWP.seq ?_
  refine AWP.seq ?_
  obtain ⟨c73, Zsf, hF⟩ := bind_some hF
  refine AWP.cutN (fun T => ∃ r, WS r T ⟨[(0, .c none (.sl (pairs.map Zl.cells))), (40, .c none (.v (.bool c73)))], []⟩) ?_ (fun T hw => ?_)
  ·refine ns ?_
   intro hlen71
   (try rw [List.length_map] at hlen71)
   (try rw [List.length_map])
   refine st ?_
   refine Zm false (fun ZyH => ?_) (fun ZyH => ?_)
   ·have Zsf := ift ZyH Zsf
    (conv => whnf)
    obtain rfl := Zg Zsf
    refine st ?_
    exact wx (WS.mk (tc (Zd (Zr (web ZyH)) Zb)) Zc)
   ·have Zsf := ife ZyH Zsf
    obtain ⟨r72, ZHU, Zsf⟩ := bind_some Zsf
    (conv => whnf)
    refine st ?_
    refine Exists.intro [3] (Exists.intro [] (Exists.intro [] ?_))
    refine st ?_
    refine cm (Zj.weak (rn []) (Zgx l_3 _ ZHU) rfl (WS.mk (tc Zb) Zc)) ?_
    refine st ?_
    obtain rfl := Zg Zsf
    refine st ?_
    exact wx (WS.mk (tc (Zd (Zr (web ZyH)) Zb)) Zc)
  obtain ⟨r0, hw⟩ := hw
  (conv => whnf)
  refine AWP.weak r0 hw ?_
  refine nw ?_
  refine Zi hF (fun ZGV hF => ?_) (fun ZGV hF => ?_)
  ·refine AWP.seq ?_
   obtain ⟨r76, ZG4, hF⟩ := bind_some hF
   refine ns ?_
   refine e3 ?_
   refine st ?_
   refine cm (Zj.weak (rn []) (Zdh _ ZG4) rfl (WS.mk Zb Zc)) ?_
   refine st ?_
   obtain rfl := Zg hF
   refine ns ?_
   refine Exists.intro [] ?_
   refine st ?_
   exact wx (WS.mk (tc Zb) Zc)
  ·refine nw ?_
   refine AWP.seq ?_
   obtain ⟨r77, ZEn, hF⟩ := bind_some hF
   refine ns ?_
   refine e3 ?_
   refine st ?_
   refine cm (Zj.weak (rn []) (ZoD pairs _ ZEn) rfl (WS.mk (tc Zb) Zc)) ?_
   refine st ?_
   refine AWP.seq ?_
   obtain ⟨r78, ZHj, hF⟩ := bind_some hF
   refine ns ?_
   refine e3 ?_
   refine st ?_
   refine cm (Zj.weak (rn []) (Zkb pairs _ ZHj) rfl (WS.mk (tc Zb) Zc)) ?_
   refine st ?_
   refine AWP.seq ?_
   obtain ⟨c80, Zr8, hF⟩ := bind_some hF
   obtain ⟨c82, ZhG, hF⟩ := bind_some hF
   refine AWP.cutN (fun T => ∃ r, WS r T ⟨[(2, .c none (.v (.bool c82)))], []⟩) ?_ (fun T hw => ?_)
   ·refine ns ?_
    refine Zm true (fun Zkr => ?_) (fun Zkr => ?_)
    ·have Zr8 := ift Zkr Zr8
     obtain ⟨r79, ZEl, Zr8⟩ := bind_some Zr8
     (conv => whnf)
     refine st ?_
     refine e3 ?_
     refine st ?_
     refine cm (Zj.weak (rn []) (ZjK r77.1 r78.1 _ ZEl) rfl (WS.mk (tc (tc Zb)) Zc)) ?_
     refine st ?_
     obtain rfl := Zg Zr8
     refine st ?_
     refine Zm true (fun ZpD => ?_) (fun ZpD => ?_)
     ·have ZhG := ift (And.intro Zkr ZpD) ZhG
      obtain ⟨r81, Zyx, ZhG⟩ := bind_some ZhG
      (conv => whnf)
      refine st ?_
      refine e3 ?_
      refine st ?_
      refine cm (Zj.weak (rn []) (Zdh _ Zyx) rfl (WS.mk Zb Zc)) ?_
      refine st ?_
      obtain rfl := Zg ZhG
      refine st ?_
      exact wx (WS.mk (Zd (Zr (web (And.intro Zkr ZpD))) Zb) Zc)
     ·have ZhG := ife (And.intro Zkr ZpD) ZhG
      (conv => whnf)
      obtain rfl := Zg ZhG
      refine st ?_
      exact wx (WS.mk (Zd (Zr (web (And.intro Zkr ZpD))) Zb) Zc)
    ·have Zr8 := ife Zkr Zr8
     (conv => whnf)
     obtain rfl := Zg Zr8
     have ZhG := ife Zkr ZhG
     obtain rfl := Zg ZhG
     refine st ?_
     exact wx (WS.mk (Zd (Zr (web Zkr)) Zb) Zc)
   obtain ⟨r0, hw⟩ := hw
   (conv => whnf)
   refine AWP.weak r0 hw ?_
   obtain rfl := Zg hF
   refine ns ?_
   refine Exists.intro [] ?_
   refine st ?_
   exact wx (WS.mk (tc Zb) Zc)

def ZcA (pairs : (List Zl)) : Option (Bool) :=
 ZaC pairs ([] : List Za) 0
def ZcA.M (pairs : (List Zl)) (r : Bool) : Prop :=
 Zj Tryz.prog 4 [.c none (.sl (pairs.map Zl.cells))] [] (fun d b => d = .c none (.v (.bool r)) ∧ b = [])
theorem Zlw (pairs : (List Zl)) (r : Bool) (hF : ZcA pairs = some r) : ZcA.M pairs r := by
 unfold ZcA at hF
 unfold ZcA.M
 refine en Tryz.func4 ?_
 refine AWP.seq ?_
 refine ns ?_
 refine AWP.seq ?_
 refine ns ?_
 refine Exists.intro _ (And.intro (ZY (f := Za.cells)) ?_)
 refine st ?_
 refine AWP.seq ?_
 refine AWP.seq ?_
 refine ns ?_
 refine AWP.block ?_
 refine AWP.loop ?_
 refine AWL.weak (rn [(9, 3)]) ?_ (Zj0 pairs ([] : List Za) 0 _ hF)
 exact (WS.mk (tc (Zd (Zal rfl (WE.refl _)) (tc Zb))) Zc)

mutual
def ZU (Zdp : ((List Ze) × Int)) (i_9 : Nat) : Option (Bool) :=
 if (decide (((i_9 : Nat) : Int) < ((Zdp.1.length : Nat) : Int))) = true then
 (Zdp.1[i_9]?) >>= fun Zxj =>
 Zds Zxj.fType >>= fun Zcq =>
 ZZ Zdp i_9 Zcq 0
 else
 Zau >>= fun ZB3 =>
 some ZB3
 partial_fixpoint
def ZZ (Zdp : ((List Ze) × Int)) (i_9 : Nat) (Zcq : ((List ByteArray))) (ZeM : Nat) : Option (Bool) :=
 if (decide (((ZeM : Nat) : Int) < ((Zcq.length : Nat) : Int))) = true then
 (Zcq[ZeM]?) >>= fun ZfM =>
 Z0 Zdp i_9 ZfM 0 Zcq ZeM Zdp.1
 else
 ZU Zdp (i_9 + 1)
 partial_fixpoint
def Z0 (Zdp : ((List Ze) × Int)) (i_9 : Nat) (ZfM : ByteArray) (ZkW : Nat) (Zcq : ((List ByteArray))) (ZeM : Nat) (ZeE : (List Ze)) : Option (Bool) :=
 (match ZeE with
 | Zwx :: Zv3 =>
 if (Zwx.fName.toList == ZfM.toList) = true then
 some false
 else
 Z0 Zdp i_9 ZfM (ZkW + 1) Zcq ZeM Zv3
 | [] =>
 ZZ Zdp i_9 Zcq (ZeM + 1))
 partial_fixpoint
end
def ZU.M (Zdp : ((List Ze) × Int)) (i_9 : Nat) (r : Bool) : Prop :=
 AWL Tryz.prog 81 (Code.sub (Zq Tryz.f5) [1, 1, 1, 1, 1, 0, 1, 0, 0]) (Code.cont Tryz.prog 81 (Zq Tryz.f5) [1, 1, 1, 1, 1, 0, 1, 0] (ZbW tab Tryz.f5.results (ZbY (.c none (.v (.bool r))) []))) ⟨[(5, .c none (.sl (Zdp.1.map Ze.cells))), (9, .c none (.v (.int .i64 ((i_9 : Nat) : Int))))], []⟩
def ZZ.M (Zdp : ((List Ze) × Int)) (i_9 : Nat) (Zcq : ((List ByteArray))) (ZeM : Nat) (r : Bool) : Prop :=
 Zdp.1.length ≤ maxLen → i_9 < Zdp.1.length → Zcq.length ≤ maxLen → AWL Tryz.prog 81 (Code.sub (Zq Tryz.f5) [1, 1, 1, 1, 1, 0, 1, 0, 0, 1, 0, 0, 1, 0, 0]) (Code.cont Tryz.prog 81 (Zq Tryz.f5) [1, 1, 1, 1, 1, 0, 1, 0, 0, 1, 0, 0, 1, 0] (ZbW tab Tryz.f5.results (ZbY (.c none (.v (.bool r))) []))) ⟨[(5, .c none (.sl (Zdp.1.map Ze.cells))), (9, .c none (.v (.int .i64 ((i_9 : Nat) : Int)))), (60, .c (some (60, 9)) (.sl (Zcq.map c_S))), (61, .c none (.v (.int .i64 ((Zcq.length : Nat) : Int)))), (62, .c none (.v (.int .i64 ((ZeM : Nat) : Int))))], []⟩
def Z0.M (Zdp : ((List Ze) × Int)) (i_9 : Nat) (ZfM : ByteArray) (ZkW : Nat) (Zcq : ((List ByteArray))) (ZeM : Nat) (ZeE : (List Ze)) (r : Bool) : Prop :=
 ∀ ZoS : List Ze, Zdp.1 = ZoS ++ ZeE → ZkW = ZoS.length → Zdp.1.length ≤ maxLen → i_9 < Zdp.1.length → Zcq.length ≤ maxLen → ZeM < Zcq.length → AWL Tryz.prog 81 (Code.sub (Zq Tryz.f5) [1, 1, 1, 1, 1, 0, 1, 0, 0, 1, 0, 0, 1, 0, 0, 1, 1, 0, 0, 1, 1, 0, 0]) (Code.cont Tryz.prog 81 (Zq Tryz.f5) [1, 1, 1, 1, 1, 0, 1, 0, 0, 1, 0, 0, 1, 0, 0, 1, 1, 0, 0, 1, 1, 0] (ZbW tab Tryz.f5.results (ZbY (.c none (.v (.bool r))) []))) ⟨[(5, .c none (.sl (Zdp.1.map Ze.cells))), (9, .c none (.v (.int .i64 ((i_9 : Nat) : Int)))), (11, .c none (.v (.string ZfM))), (12, .c none (.v (.int .i64 ((ZkW : Nat) : Int)))), (60, .c (some (60, 9)) (.sl (Zcq.map c_S))), (61, .c none (.v (.int .i64 ((Zcq.length : Nat) : Int)))), (62, .c none (.v (.int .i64 ((ZeM : Nat) : Int))))], []⟩
theorem Zd2 (Zdp : ((List Ze) × Int)) : (∀ (i_9 : Nat), ∀ r, ZU Zdp i_9 = some r → ZU.M Zdp i_9 r) ∧ (∀ (i_9 : Nat) (Zcq : ((List ByteArray))) (ZeM : Nat), ∀ r, ZZ Zdp i_9 Zcq ZeM = some r → ZZ.M Zdp i_9 Zcq ZeM r) ∧ (∀ (i_9 : Nat) (ZfM : ByteArray) (ZkW : Nat) (Zcq : ((List ByteArray))) (ZeM : Nat) (ZeE : (List Ze)), ∀ r, Z0 Zdp i_9 ZfM ZkW Zcq ZeM ZeE = some r → Z0.M Zdp i_9 ZfM ZkW Zcq ZeM ZeE r) := by
 refine ZU.mutual_partial_correctness Zdp (fun i_9 r => ZU.M Zdp i_9 r) (fun i_9 Zcq ZeM r => ZZ.M Zdp i_9 Zcq ZeM r) (fun i_9 ZfM ZkW Zcq ZeM ZeE r => Z0.M Zdp i_9 ZfM ZkW Zcq ZeM ZeE r) ?_ ?_ ?_
 ·intro lazyclaw18_UnifySolves_l2' Zck i_9 r hF
  have Zd9 := fun (_r882 : ((List Ze) × Int)) (i_9 : Nat) (Zcq : ((List ByteArray))) (ZeM : Nat) => Zck i_9 Zcq ZeM
  clear Zck
  unfold ZU.M
  refine AWL.step ?_
  refine AWP.seq ?_
  refine AWP.seq ?_
  refine ns ?_
  intro hlen1252
  (try rw [List.length_map] at hlen1252)
  (try rw [List.length_map])
  refine st ?_
  refine nw ?_
  refine Zi hF (fun ZzN hF => ?_) (fun ZzN hF => ?_)
  ·have Zoh := ZpH ZzN
   refine nw ?_
   refine AWP.seq ?_
   refine AWP.block ?_
   refine AWP.seq ?_
   obtain ⟨Zxj, ZCv, hF⟩ := bind_some hF
   obtain ⟨Zcq, ZEa, hF⟩ := bind_some hF
   refine nn ?_
   refine sr (Zab (f := Ze.cells) (Ze.cells_eq Zxj) ZCv) ?_
   refine st ?_
   refine e3 ?_
   refine st ?_
   refine cm (Zj.weak (rn []) (Zn3 Zxj.fType _ ZEa) rfl (WS.mk (Zd (Zt (lc (lc (lc (lc Zo))))) Zb) Zc)) ?_
   refine st ?_
   intro hlen1256
   (try rw [List.length_map] at hlen1256)
   (try rw [List.length_map])
   refine st ?_
   refine AWP.block ?_
   refine AWP.loop ?_
   refine AWL.weak (rn [(60, 60)]) ?_ (Zd9 Zdp i_9 Zcq 0 _ hF hlen1252 Zoh hlen1256)
   exact (WS.mk (tc (tc (Zd (Zal rfl (WE.refl _)) (tc (tc Zb))))) Zc)
  ·refine nw ?_
   refine AWP.seq ?_
   obtain ⟨ZB3, ZCS, hF⟩ := bind_some hF
   refine ns ?_
   refine e3 ?_
   refine st ?_
   refine cm (Zj.weak (rn []) (Zdh _ ZCS) rfl (WS.mk Zb Zc)) ?_
   refine st ?_
   obtain rfl := Zg hF
   refine ns ?_
   refine Exists.intro [] ?_
   refine st ?_
   exact wx (WS.mk (tc Zb) Zc)
 ·intro lazyclaw18_UnifySolves_l1' lazyclaw18_UnifySolves_l3' Zfi Zch i_9 Zcq ZeM r hF
  have ZiJ := fun (_r882 : ((List Ze) × Int)) (i_9 : Nat) => Zfi i_9
  clear Zfi
  have Zd7 := fun (_r882 : ((List Ze) × Int)) (i_9 : Nat) (ZfM : ByteArray) (ZkW : Nat) (Zcq : ((List ByteArray))) (ZeM : Nat) (ZeE : (List Ze)) => Zch i_9 ZfM ZkW Zcq ZeM ZeE
  clear Zch
  unfold ZZ.M
  intro hlen1252 Zoh hlen1256
  refine AWL.step ?_
  refine AWP.seq ?_
  refine ns ?_
  refine AWP.seq ?_
  refine nw ?_
  refine Zi hF (fun Zzj hF => ?_) (fun Zzj hF => ?_)
  ·have Ztv := ZpH Zzj
   refine nw ?_
   refine AWP.seq ?_
   refine AWP.block ?_
   refine AWP.seq ?_
   obtain ⟨ZfM, ZD3, hF⟩ := bind_some hF
   refine nn ?_
   refine sr (Zab (f := c_S) rfl ZD3) ?_
   refine st ?_
   refine AWP.seq ?_
   refine ns ?_
   refine AWP.block ?_
   refine AWP.loop ?_
   refine AWL.weak (rn [(60, 60)]) ?_ (Zd7 Zdp i_9 ZfM 0 Zcq ZeM Zdp.1 _ hF ([]) rfl rfl hlen1252 Zoh hlen1256 Ztv)
   exact (WS.mk (tc (tc (tc (tc (Zd (Zal rfl (WE.refl _)) (tc (tc Zb))))))) Zc)
  ·refine nw ?_
   refine ns ?_
   refine AWL.weak (rn []) ?_ (ZiJ Zdp (i_9 + 1) _ hF)
   exact (WS.mk (tc (Zd (Zr (Zdf (ZV hlen1252 Zoh))) Zb)) Zc)
 ·intro lazyclaw18_UnifySolves_l2' lazyclaw18_UnifySolves_l3' Zck Zch i_9 ZfM ZkW Zcq ZeM ZeE r hF
  have Zd9 := fun (_r882 : ((List Ze) × Int)) (i_9 : Nat) (Zcq : ((List ByteArray))) (ZeM : Nat) => Zck i_9 Zcq ZeM
  clear Zck
  have Zd7 := fun (_r882 : ((List Ze) × Int)) (i_9 : Nat) (ZfM : ByteArray) (ZkW : Nat) (Zcq : ((List ByteArray))) (ZeM : Nat) (ZeE : (List Ze)) => Zch i_9 ZfM ZkW Zcq ZeM ZeE
  clear Zch
  unfold Z0.M
  intro ZoS Zxy ZxC hlen1252 Zoh hlen1256 Ztv
  refine AWL.step ?_
  refine AWP.seq ?_
  refine AWP.seq ?_
  refine ns ?_
  intro hlen1316
  (try rw [List.length_map] at hlen1316)
  (try rw [List.length_map])
  refine st ?_
  refine nw ?_
  refine ZN Zxy ZxC (fun Zwx Zv3 Zv7 ZCY ZCO => ?_) (fun Zv7 => ?_)
  ·subst Zv7
   refine nw ?_
   refine AWP.seq ?_
   refine AWP.block ?_
   refine AWP.seq ?_
   refine nn ?_
   refine sr (Zab (f := Ze.cells) (Ze.cells_eq Zwx) ZCY) ?_
   refine st ?_
   refine nw ?_
   refine Zi hF (fun ZC4 hF => ?_) (fun ZC4 hF => ?_)
   ·refine AWP.seq ?_
    refine ns ?_
    obtain rfl := Zg hF
    refine ns ?_
    refine Exists.intro [] ?_
    refine st ?_
    exact wx (WS.mk (tc Zb) Zc)
   ·refine nw ?_
    refine ns ?_
    refine AWL.weak (rn [(60, 60)]) ?_ (Zd7 Zdp i_9 ZfM (ZkW + 1) Zcq ZeM Zv3 _ hF (ZoS ++ [Zwx]) (by rw [Zxy]; simp) (by rw [ZxC]; simp) hlen1316 Zoh hlen1256 Ztv)
    exact (WS.mk (tc (tc (tc (Zd (Zr (Zdf (ZV hlen1316 ZCO))) (Zd (Zal rfl (WE.refl _)) (tc (tc Zb))))))) Zc)
  ·subst Zv7
   refine nw ?_
   refine ns ?_
   refine AWL.weak (rn [(60, 60)]) ?_ (Zd9 Zdp i_9 Zcq (ZeM + 1) _ hF hlen1316 Zoh hlen1256)
   exact (WS.mk (tc (tc (Zd (Zal rfl (WE.refl _)) (tc (Zd (Zr (Zdf (ZV hlen1256 Ztv))) Zb))))) Zc)
theorem ZiM : ∀ (Zdp : ((List Ze) × Int)) (i_9 : Nat), ∀ r, ZU Zdp i_9 = some r → ZU.M Zdp i_9 r := fun Zdp i_9 => (Zd2 Zdp).1 i_9
theorem lazyclaw18_UnifySolves_l2_ok : ∀ (Zdp : ((List Ze) × Int)) (i_9 : Nat) (Zcq : ((List ByteArray))) (ZeM : Nat), ∀ r, ZZ Zdp i_9 Zcq ZeM = some r → ZZ.M Zdp i_9 Zcq ZeM r := fun Zdp i_9 Zcq ZeM => (Zd2 Zdp).2.1 i_9 Zcq ZeM
theorem lazyclaw18_UnifySolves_l3_ok : ∀ (Zdp : ((List Ze) × Int)) (i_9 : Nat) (ZfM : ByteArray) (ZkW : Nat) (Zcq : ((List ByteArray))) (ZeM : Nat) (ZeE : (List Ze)), ∀ r, Z0 Zdp i_9 ZfM ZkW Zcq ZeM ZeE = some r → Z0.M Zdp i_9 ZfM ZkW Zcq ZeM ZeE r := fun Zdp i_9 ZfM ZkW Zcq ZeM ZeE => (Zd2 Zdp).2.2 i_9 ZfM ZkW Zcq ZeM ZeE

def ZbN (a : Za) (b : Za) : Option (Bool) :=
 ZbI a b >>= fun Zdp =>
 Zb8 ([a, b]) >>= fun ZCB =>
 if ((!ZCB) || (Zdp.2 != 0)) = true then
 Zau >>= fun ZFV =>
 some ZFV
 else
 Za3 Zdp.1 a >>= fun ZBw =>
 Za3 Zdp.1 b >>= fun ZBI =>
 (if ((ZBw.fOp != 0) && (ZBI.fOp != 0)) = true then Zca ZBw ZBI >>= fun ZF8 =>
 some (!ZF8) else some false) >>= fun c896 =>
 if c896 = true then
 some false
 else
 ZU Zdp 0
def ZbN.M (a : Za) (b : Za) (r : Bool) : Prop :=
 Zj Tryz.prog 5 [.agg [.v (.int .i64 a.fOp), .v (.string a.fName), .sl (a.fBound.fArgs.map Zk.cells), .sl (a.fKids.map Za.cells)], .agg [.v (.int .i64 b.fOp), .v (.string b.fName), .sl (b.fBound.fArgs.map Zk.cells), .sl (b.fKids.map Za.cells)]] [] (fun d b => d = .c none (.v (.bool r)) ∧ b = [])
theorem Zj2 (a : Za) (b : Za) (r : Bool) (hF : ZbN a b = some r) : ZbN.M a b r := by
 unfold ZbN at hF
 unfold ZbN.M
 refine en Tryz.func5 ?_
 refine AWP.seq ?_
 refine ns ?_
 refine AWP.seq ?_
 obtain ⟨Zdp, ZF0, hF⟩ := bind_some hF
 refine ns ?_
 refine e3 ?_
 refine st ?_
 refine cm (Zj.weak (rn []) (Zf9 a b _ ZF0) rfl (WS.mk (Zd (Zt (lc (lc (lc (lc Zo))))) (Zd (Zt (lc (lc (lc (lc Zo))))) Zb)) Zc)) ?_
 refine st ?_
 refine AWP.seq ?_
 refine AWP.seq ?_
 obtain ⟨ZCB, ZGn, hF⟩ := bind_some hF
 refine AWP.cutN (fun T => ∃ r, WS r T ⟨[(2, .ptr 2 0), (3, .ptr 3 0), (5, .c none (.sl (Zdp.1.map Ze.cells))), (27, .c none (.v (.bool ((!ZCB) || (Zdp.2 != 0)))))], [(2, [(none, .v (.int .i64 a.fOp)), (none, .v (.string a.fName)), (none, .sl (a.fBound.fArgs.map Zk.cells)), (none, .sl (a.fKids.map Za.cells))]), (3, [(none, .v (.int .i64 b.fOp)), (none, .v (.string b.fName)), (none, .sl (b.fBound.fArgs.map Zk.cells)), (none, .sl (b.fKids.map Za.cells))])]⟩) ?_ (fun T hw => ?_)
 ·refine ns ?_
  refine Exists.intro _ (And.intro (Zbs (f := Za.cells) (ZdA (Za.cells_eq a) (lc (lc (lc (lc Zo))))) (Zbs (f := Za.cells) (ZdA (Za.cells_eq b) (lc (lc (lc (lc Zo))))) (ZY (f := Za.cells)))) ?_)
  refine st ?_
  refine Exists.intro [21] (Exists.intro [] (Exists.intro [] ?_))
  refine st ?_
  refine cm (Zj.weak (rn []) (Zgx ([a, b]) _ ZGn) rfl (WS.mk (tc Zb) Zc)) ?_
  refine st ?_
  refine Zm false (fun ZAb => ?_) (fun ZAb => ?_)
  ·(conv => whnf)
   refine st ?_
   exact wx (WS.mk (tp (tp (tc (Zd (Zr (web ZAb)) Zb)))) (Zf rfl (cc (cc (cc (cc Zh)))) (Zf rfl (cc (cc (cc (cc Zh)))) Zc)))
  ·(conv => whnf)
   refine st ?_
   exact wx (WS.mk (tp (tp (tc (Zd (Zr (web ZAb)) Zb)))) (Zf rfl (cc (cc (cc (cc Zh)))) (Zf rfl (cc (cc (cc (cc Zh)))) Zc)))
 obtain ⟨r0, hw⟩ := hw
 (conv => whnf)
 refine AWP.weak r0 hw ?_
 refine nw ?_
 refine Zi hF (fun ZF1 hF => ?_) (fun ZF1 hF => ?_)
 ·refine AWP.seq ?_
  obtain ⟨ZFV, ZFu, hF⟩ := bind_some hF
  refine ns ?_
  refine e3 ?_
  refine st ?_
  refine cm (Zj.weak (rn []) (Zdh _ ZFu) rfl (WS.mk Zb Zc)) ?_
  refine st ?_
  obtain rfl := Zg hF
  refine ns ?_
  refine Exists.intro [] ?_
  refine st ?_
  exact wx (WS.mk (tc Zb) Zc)
 ·refine nw ?_
  refine AWP.seq ?_
  obtain ⟨ZBw, ZFX, hF⟩ := bind_some hF
  obtain ⟨ZBI, ZF7, hF⟩ := bind_some hF
  refine nn ?_
  refine Or.inl (Exists.intro 8 (Exists.intro [[], [], [], [], [], [], [7], [8]] (Exists.intro [([29, 30, 31, 32, 33, 34, 7, 8], [7, 8], []), ([29, 30, 31, 32, 33, 34, 7, 8], [7, 8], []), ([31, 32, 33, 34, 7, 8], [7, 8], []), ([29, 30, 31, 32, 33, 34, 7, 8], [7, 8], []), ([29, 30, 31, 32, 33, 34, 7, 8], [7, 8], []), ([34, 7, 8], [7, 8], []), ([29, 30, 31, 32, 33, 34, 7, 8], [8], [7]), ([29, 30, 31, 32, 33, 34, 7, 8], [7], [8])] (Exists.intro [29, 30, 31, 32, 33, 34, 7, 8] (And.intro (by decide +kernel) ?_)))))
  refine dp ?_
  refine dp ?_
  (refine st ?_; apply Exists.intro; apply Exists.intro; apply And.intro; (focus ((conv => whnf); refine Exists.intro [] ?_; (conv => whnf); refine And.intro rfl ?_; (conv => whnf); refine Zj.mono (Zj.weak (rn []) (Ze4 Zdp.1 a _ ZFX) rfl (WS.mk (tc (Zd (Zt (lc (lc (lc (lc Zo))))) Zb)) Zc)) ?_; rintro d b ⟨rfl, rfl⟩; exact And.intro rfl (And.intro rfl rfl))); apply And.intro; (focus exact rfl); (conv => whnf))
  refine dp ?_
  refine dp ?_
  (refine st ?_; apply Exists.intro; apply Exists.intro; apply And.intro; (focus ((conv => whnf); refine Exists.intro [] ?_; (conv => whnf); refine And.intro rfl ?_; (conv => whnf); refine Zj.mono (Zj.weak (rn []) (Ze4 Zdp.1 b _ ZF7) rfl (WS.mk (tc (Zd (Zt (lc (lc (lc (lc Zo))))) Zb)) Zc)) ?_; rintro d b ⟨rfl, rfl⟩; exact And.intro rfl (And.intro rfl rfl))); apply And.intro; (focus exact rfl); (conv => whnf))
  refine dp ?_
  refine dp ?_
  refine st ?_
  refine AWP.seq ?_
  refine AWP.seq ?_
  obtain ⟨c896, ZmQ, hF⟩ := bind_some hF
  refine AWP.cutN (fun T => ∃ r, WS r T ⟨[(5, .c none (.sl (Zdp.1.map Ze.cells))), (48, .c none (.v (.bool c896)))], []⟩) ?_ (fun T hw => ?_)
  ·refine ns ?_
   refine Zm true (fun ZqQ => ?_) (fun ZqQ => ?_)
   ·(conv => whnf)
    refine st ?_
    refine Zm true (fun ZuA => ?_) (fun ZuA => ?_)
    ·have ZmQ := ift (And.intro ZqQ ZuA) ZmQ
     obtain ⟨ZF8, ZFJ, ZmQ⟩ := bind_some ZmQ
     (conv => whnf)
     refine st ?_
     refine e3 ?_
     refine st ?_
     refine cm (Zj.weak (rn []) (Zi4 ZBw ZBI _ ZFJ) rfl (WS.mk (Zd (Zt (lc (lc (lc (lc Zo))))) (Zd (Zt (lc (lc (lc (lc Zo))))) Zb)) Zc)) ?_
     refine st ?_
     obtain rfl := Zg ZmQ
     refine st ?_
     exact wx (WS.mk (tc (Zd (Zr (web (And.intro ZqQ ZuA))) Zb)) Zc)
    ·have ZmQ := ife (And.intro ZqQ ZuA) ZmQ
     (conv => whnf)
     obtain rfl := Zg ZmQ
     refine st ?_
     exact wx (WS.mk (tc (Zd (Zr (web (And.intro ZqQ ZuA))) Zb)) Zc)
   ·(conv => whnf)
    have ZmQ := ife ZqQ ZmQ
    obtain rfl := Zg ZmQ
    refine st ?_
    exact wx (WS.mk (tc (Zd (Zr (web ZqQ)) Zb)) Zc)
  obtain ⟨r0, hw⟩ := hw
  (conv => whnf)
  refine AWP.weak r0 hw ?_
  refine nw ?_
  refine Zi hF (fun ZGE hF => ?_) (fun ZGE hF => ?_)
  ·refine AWP.seq ?_
   refine ns ?_
   obtain rfl := Zg hF
   refine ns ?_
   refine Exists.intro [] ?_
   refine st ?_
   exact wx (WS.mk (tc Zb) Zc)
  ·refine nw ?_
   refine AWP.seq ?_
   refine AWP.seq ?_
   refine ns ?_
   refine AWP.block ?_
   refine AWP.loop ?_
   refine AWL.weak (rn []) ?_ (ZiM Zdp 0 _ hF)
   exact (WS.mk (tc (tc Zb)) Zc)

theorem Zn {α β : Type} (x : α) (f : α → Option β) : (some x >>= f) = f x := rfl
theorem Zde {p : Prop} [Decidable p] {β : Type} (f : Unit → Option β) (h : p) : (Z4 p >>= f) = f () := by unfold Z4; rw [if_pos h]; rfl
theorem ZfB {a b : ByteArray} (h : a.data.toList = b.data.toList) : a = b := by
 obtain ⟨⟨l⟩⟩ := a; obtain ⟨⟨k⟩⟩ := b
 simp only at h; rw [h]
theorem ZaY (s : ByteArray) : s.toList = s.data.toList := by
 have key : ∀ (n i : Nat) (r : List UInt8), s.size - i = n → ByteArray.toList.loop s i r = r.reverse ++ s.data.toList.drop i := by
  intro n
  induction n with
  | zero =>
   intro i r h
   rw [ByteArray.toList.loop, if_neg (by omega), List.drop_eq_nil_of_le (by show s.data.toList.length ≤ i; simp; have : s.data.size = s.size := rfl; omega), List.append_nil]
  | succ n ih =>
   intro i r h
   have hi : i < s.size := by omega
   rw [ByteArray.toList.loop, if_pos hi, ih (i + 1) _ (by omega)]
   have hd : s.data.toList.drop i = s.data.toList[i]'(by simpa using hi) :: s.data.toList.drop (i + 1) := (List.drop_eq_getElem_cons (by simpa using hi))
   rw [hd]
   have : s.get! i = s.data.toList[i]'(by simpa using hi) := by
    have hi' : i < s.data.size := hi
    show s.data[i]! = _
    rw [getElem!_pos s.data i hi']; simp
   rw [this]; simp
 show ByteArray.toList.loop s 0 [] = _
 rw [key _ 0 [] rfl]; simp
theorem Zep (s : ByteArray) (k : Nat) : btI s ((k : Nat) : Int) = s.data.toList[k]? := by
 unfold btI
 rw [if_pos (Int.natCast_nonneg k), Int.toNat_natCast]
 rcases Nat.lt_or_ge k s.size with h | h
 ·rw [getElem?_pos s k h, List.getElem?_eq_getElem (by simpa using h)]; rfl
 ·rw [getElem?_neg s k (by omega), List.getElem?_eq_none (by simpa using h)]
theorem sz (s : ByteArray) : s.data.toList.length = s.size := by simp
def Zib (c : UInt8) : Bool := decide (65 ≤ c.toNat) && decide (c.toNat ≤ 90)
def ZhT (c : UInt8) : Bool := decide (97 ≤ c.toNat) && decide (c.toNat ≤ 122)
def ZgL (c : UInt8) : Bool := decide (48 ≤ c.toNat) && decide (c.toNat ≤ 57)
def wst (c : UInt8) : Bool := Zib c || ZhT c || c.toNat == 95
def wch (c : UInt8) : Bool := wst c || ZgL c || c.toNat == 39
def Zu9 : List UInt8 := [33, 35, 36, 37, 38, 42, 43, 46, 47, 60, 61, 62, 63, 64, 92, 94, 124, 45, 126, 58]
def Ztd (c : UInt8) : Bool := Zu9.contains c
theorem ZDN (c : UInt8) : Zen ((c.toNat : Nat) : Int) = some (Zib c) := by
 unfold Zen Zib; congr 2 <;> (apply decide_eq_decide.2; omega)
theorem ZCl (c : UInt8) : Zcw ((c.toNat : Nat) : Int) = some (Zib c) := by
 unfold Zcw Zib; congr 2 <;> (apply decide_eq_decide.2; omega)
theorem ZFc (c : UInt8) : Zfh ((c.toNat : Nat) : Int) = some (ZgL c) := by
 unfold Zfh ZgL; congr 2 <;> (apply decide_eq_decide.2; omega)
theorem ZB5 (c : UInt8) : ZcZ ((c.toNat : Nat) : Int) = some (ZgL c) := by
 unfold ZcZ ZgL; congr 2 <;> (apply decide_eq_decide.2; omega)
theorem ZdU (a b : Nat) : (((a : Nat) : Int) == ((b : Nat) : Int)) = (a == b) := by
 rw [Bool.eq_iff_iff]; simp; omega
theorem ZBZ (c : UInt8) : Zei ((c.toNat : Nat) : Int) = some (Zib c || ZhT c) := by
 unfold Zei
 rw [ZDN, Zn]
 unfold ZhT
 congr 3 <;> (apply decide_eq_decide.2; omega)
theorem ZBU (c : UInt8) : ZcY ((c.toNat : Nat) : Int) = some (ZhT c || c.toNat == 95) := by
 unfold ZcY ZhT
 rw [show (95 : Int) = ((95 : Nat) : Int) from rfl, ZdU]
 congr 3 <;> (apply decide_eq_decide.2; omega)
theorem Zi8 {l : List UInt8} {k : Nat} {y : UInt8} (h : l[k]? = some y) : l.drop k = y :: l.drop (k + 1) := by
 obtain ⟨h1, h2⟩ := List.getElem?_eq_some_iff.1 h
 rw [List.drop_eq_getElem_cons h1, h2]
theorem ZzP (s : ByteArray) (hs : s.size ≤ 1000000) : ∀ (d k : Nat), s.size - k = d → Zdo s k = some ((s.data.toList.drop k).all wch) := by
 intro d
 induction d with
 | zero =>
  intro k hk
  rw [Zdo, if_neg (by simp; omega), List.drop_eq_nil_of_le (by rw [sz]; omega)]; rfl
 | succ d ih =>
  intro k hk
  have hlt : k < s.size := by omega
  obtain ⟨y, hy⟩ : ∃ y, s.data.toList[k]? = some y := ⟨_, List.getElem?_eq_getElem (by rw [sz]; exact hlt)⟩
  rw [Zdo, if_pos (by simpa using hlt), Zep, hy, Zn, ZBZ, Zn, ZFc, Zi8 hy, List.all_cons]
  have h1 : (if (!(Zib y || ZhT y)) = true then some (ZgL y) >>= fun r35 => some (!r35) else some false) = some (!(Zib y || ZhT y) && !(ZgL y)) := by
   cases (Zib y || ZhT y) <;> rfl
  rw [h1, Zn]
  have h2 : ((((!(Zib y || ZhT y) && !(ZgL y)) && (((y.toNat : Nat) : Int) != 95)) && (((y.toNat : Nat) : Int) != 39)) = true) ↔ wch y = false := by
   unfold wch wst
   rw [show (((y.toNat : Nat) : Int) != 95) = !(y.toNat == 95) from by rw [bne, show (95 : Int) = ((95 : Nat) : Int) from rfl, ZdU], show (((y.toNat : Nat) : Int) != 39) = !(y.toNat == 39) from by rw [bne, show (39 : Int) = ((39 : Nat) : Int) from rfl, ZdU]]
   cases Zib y <;> cases ZhT y <;> cases ZgL y <;> cases (y.toNat == 95) <;> cases (y.toNat == 39) <;> simp
  by_cases hw : wch y = false
  ·rw [if_pos (h2.2 hw), hw]; rfl
  ·rw [if_neg (fun h => hw (h2.1 h)), Zde _ (by omega), ih (k + 1) (by omega)]
   simp only [Bool.not_eq_false] at hw
   rw [hw]; rfl
def Zh4 (l : List UInt8) : Bool := match l with
 | [] => false
 | c :: r => decide (r.length < 64) && wst c && l.all wch
theorem Zij (c : UInt8) (r : List UInt8) : Zh4 (c :: r) = (decide (r.length < 64) && wst c && (c :: r).all wch) := rfl
theorem Znw (s : ByteArray) : (s.toList == (ByteArray.mk #[]).toList) = decide (s.size = 0) := by
 rw [Bool.eq_iff_iff]
 rw [beq_iff_eq, ZaY, ZaY, decide_eq_true_iff, ← sz]
 constructor
 ·intro h; rw [h]; rfl
 ·intro h; exact List.eq_nil_of_length_eq_zero h
theorem ZvG (s : ByteArray) : ZeB s = some (Zh4 s.data.toList) := by
 unfold ZeB
 rw [Znw]
 cases hl : s.data.toList with
 | nil =>
  have h0 : s.size = 0 := by rw [← sz, hl]; rfl
  rw [if_pos (by simp [h0])]; rfl
 | cons c r =>
  have h0 : s.size = r.length + 1 := by rw [← sz, hl]; rfl
  by_cases h64 : s.size > 64
  ·rw [if_pos (by simp; omega), Zn, if_pos rfl]
   rw [Zij, show decide (r.length < 64) = false from decide_eq_false (by omega)]; rfl
  ·have hc : ¬ ((decide (s.size = 0) || decide (((s.size : Nat) : Int) > 64)) = true) := by rw [Bool.or_eq_true, decide_eq_true_iff, decide_eq_true_iff]; omega
   rw [if_neg hc]
   have hb : btI s 0 = some c := by have := Zep s 0; rw [hl] at this; exact this
   rw [hb]
   simp only [Zn, ZBZ]
   rw [show (((c.toNat : Nat) : Int) != 95) = !(c.toNat == 95) from by rw [bne, show (95 : Int) = ((95 : Nat) : Int) from rfl, ZdU]]
   rw [Zij, show decide (r.length < 64) = true from decide_eq_true (by omega)]
   cases hw : wst c with
   | false =>
    unfold wst at hw
    cases h1 : (Zib c || ZhT c) <;> rw [h1] at hw <;> simp_all
   | true =>
    have : (if (!(Zib c || ZhT c)) = true then some (!(c.toNat == 95)) else some false) = some false := by
     unfold wst at hw
     cases h1 : (Zib c || ZhT c) <;> rw [h1] at hw <;> simp_all
    rw [this, Zn, Zn, if_neg (by simp)]
    rw [ZzP s (by omega) _ 0 rfl, List.drop_zero, hl]; rfl
theorem Zg7 {s : ByteArray} (h : Zh4 s.data.toList = true) : 0 < s.size ∧ s.size ≤ 64 := by
 rw [← sz]
 cases hl : s.data.toList with
 | nil => rw [hl] at h; cases h
 | cons c r =>
  rw [hl, Zij, Bool.and_eq_true, Bool.and_eq_true, decide_eq_true_iff] at h
  simp only [List.length_cons]; omega
theorem ZyI (s : ByteArray) (hs : s.size ≤ 1000000) : ∀ (d k : Nat), s.size - k = d → ZbF s k = some ((s.data.toList.drop k).all wch) := by
 intro d
 induction d with
 | zero =>
  intro k hk
  rw [ZbF, if_neg (by simp; omega), List.drop_eq_nil_of_le (by rw [sz]; omega)]; rfl
 | succ d ih =>
  intro k hk
  have hlt : k < s.size := by omega
  obtain ⟨y, hy⟩ : ∃ y, s.data.toList[k]? = some y := ⟨_, List.getElem?_eq_getElem (by rw [sz]; exact hlt)⟩
  rw [ZbF, if_pos (by simpa using hlt), Zep, hy]
  simp only [Zn, ZBU, ZCl, ZB5, Zi8 hy, List.all_cons]
  rw [show (((y.toNat : Nat) : Int) != 39) = !(y.toNat == 39) from by rw [bne, show (39 : Int) = ((39 : Nat) : Int) from rfl, ZdU]]
  have h1 : ((if (!(ZhT y || y.toNat == 95)) = true then some (!Zib y) else some false) >>= fun c51 =>
    (if c51 = true then some (!ZgL y) else some false) >>= fun c54 => (if c54 = true then some (!(y.toNat == 39)) else some false)) = some (!wch y) := by
   unfold wch wst
   cases Zib y <;> cases ZhT y <;> cases ZgL y <;> cases (y.toNat == 95) <;> cases (y.toNat == 39) <;> rfl
  have h2 : ∀ (f : Bool → Option Bool), ((if (!(ZhT y || y.toNat == 95)) = true then some (!Zib y) else some false) >>= fun c51 =>
    (if c51 = true then some (!ZgL y) else some false) >>= fun c54 => (if c54 = true then some (!(y.toNat == 39)) else some false) >>= f) = f (!wch y) := fun f => by
   unfold wch wst
   cases Zib y <;> cases ZhT y <;> cases ZgL y <;> cases (y.toNat == 95) <;> cases (y.toNat == 39) <;> rfl
  rw [h2]
  cases hw : wch y with
  | false => rfl
  | true =>
   simp only [Bool.not_true, Bool.false_eq_true, if_false, Bool.true_and]
   rw [Zde _ (by omega), ih (k + 1) (by omega)]
theorem ZDl (s : ByteArray) : ZdK s = some (Zh4 s.data.toList) := by
 unfold ZdK
 cases hl : s.data.toList with
 | nil =>
  have h0 : s.size = 0 := by rw [← sz, hl]; rfl
  rw [if_pos (by simp [h0])]; rfl
 | cons c r =>
  have h0 : s.size = r.length + 1 := by rw [← sz, hl]; rfl
  by_cases h64 : s.size > 64
  ·rw [if_pos (by simp; omega), Zn, if_pos rfl]
   rw [Zij, show decide (r.length < 64) = false from decide_eq_false (by omega)]; rfl
  ·rw [if_neg (by simp; omega)]
   have hb : btI s 0 = some c := by have := Zep s 0; rw [hl] at this; exact this
   rw [hb]
   simp only [Zn, ZBU, ZCl]
   rw [Zij, show decide (r.length < 64) = true from decide_eq_true (by omega)]
   have h2 : ((if (!(ZhT c || c.toNat == 95)) = true then some (!Zib c) else some false) >>= fun c12 => some c12) = some (!wst c) := by
    unfold wst
    cases Zib c <;> cases ZhT c <;> cases (c.toNat == 95) <;> rfl
   rw [h2, Zn]
   cases hw : wst c with
   | false => rfl
   | true =>
    simp only [Bool.not_true, Bool.false_eq_true, if_false]
    rw [ZyI s (by omega) _ 0 rfl, List.drop_zero, hl]; rfl
theorem ZoA : ∀ (l : List UInt8) (c : UInt8), decide (Lib.indexByte l c ≥ 0) = l.contains c ∧ -1 ≤ Lib.indexByte l c
 | [], c => by simp [Lib.indexByte]
 | b :: l, c => by
  obtain ⟨h1, h2⟩ := ZoA l c
  unfold Lib.indexByte
  by_cases hb : b == c
  ·rw [if_pos hb]
   have : c = b := (beq_iff_eq.1 hb).symm
   subst this
   simp
  ·rw [if_neg hb]
   have hc : ¬ c = b := fun e => hb (by simp [e])
   have hcon : (b :: l).contains c = l.contains c := by simp [hc]
   rw [hcon, ← h1]
   split
   ·rename_i h3
    have : Lib.indexByte l c = -1 := by simpa using h3
    rw [this]; simp
   ·rename_i h3
    have h4 : ¬ Lib.indexByte l c = -1 := by simpa using h3
    constructor
    ·apply decide_eq_decide.2; omega
    ·omega
theorem ZDF (c : UInt8) : ZdZ ((c.toNat : Nat) : Int) = some (Ztd c) := by
 unfold ZdZ strings_IndexByte
 rw [Zn]
 have h1 : ((c.toNat : Nat) : Int).toNat.toUInt8 = c := by rw [Int.toNat_natCast]; simp
 rw [h1, (ZoA _ c).1]
 rfl
theorem Zzw (c : Int) (i_4 : Nat) : Zaa c i_4 = if (decide (((i_4 : Nat) : Int) < (((ByteArray.mk #[33, 35, 36, 37, 38, 42, 43, 46, 47, 60, 61, 62, 63, 64, 92, 94, 124, 45, 126, 58]).size : Nat) : Int))) = true then
  (btI (ByteArray.mk #[33, 35, 36, 37, 38, 42, 43, 46, 47, 60, 61, 62, 63, 64, 92, 94, 124, 45, 126, 58]) ((i_4 : Nat) : Int)) >>= fun y12 =>
  if (((y12.toNat : Nat) : Int) == c) = true then some true
  else Z4 (i_4 + 1 ≤ 9223372036854775807) >>= fun _ => Zaa c (i_4 + 1)
  else some false := by
 delta Zaa
 exact congrFun (Lean.Order.fix_eq _) i_4
theorem ZuP (c : UInt8) (k : Nat) : Zaa ((c.toNat : Nat) : Int) k = if k < 20 then (Zu9[k]? >>= fun y => if y.toNat == c.toNat then some true else (Z4 (k + 1 ≤ 9223372036854775807) >>= fun _ => Zaa ((c.toNat : Nat) : Int) (k + 1))) else some false := by
 have hs : (ByteArray.mk #[33, 35, 36, 37, 38, 42, 43, 46, 47, 60, 61, 62, 63, 64, 92, 94, 124, 45, 126, 58]).size = 20 := rfl
 have hl : (ByteArray.mk #[33, 35, 36, 37, 38, 42, 43, 46, 47, 60, 61, 62, 63, 64, 92, 94, 124, 45, 126, 58]).data.toList = Zu9 := rfl
 have hb := Zep (ByteArray.mk #[33, 35, 36, 37, 38, 42, 43, 46, 47, 60, 61, 62, 63, 64, 92, 94, 124, 45, 126, 58]) k
 rw [hl] at hb
 rw [Zzw, hb, hs]
 generalize Zu9[k]? = o
 by_cases h : k < 20
 ·rw [if_pos h, if_pos (decide_eq_true (by omega))]
  cases o with
  | none => rfl
  | some y => simp only [Zn, ZdU]
 ·rw [if_neg h, if_neg (by rw [decide_eq_true_iff]; omega)]
theorem ZuF : Zu9.length = 20 := rfl
theorem ZyW (c : UInt8) : ∀ (d k : Nat), 20 - k = d → Zaa ((c.toNat : Nat) : Int) k = some ((Zu9.drop k).contains c) := by
 intro d
 induction d with
 | zero =>
  intro k hk
  rw [ZuP, if_neg (by omega), List.drop_eq_nil_of_le (by rw [ZuF]; omega)]; rfl
 | succ d ih =>
  intro k hk
  obtain ⟨y, hy⟩ : ∃ y, Zu9[k]? = some y := ⟨_, List.getElem?_eq_getElem (by rw [ZuF]; omega)⟩
  rw [ZuP, if_pos (by omega), hy, Zn, Zi8 hy]
  by_cases he : y = c
  ·subst he; simp
  ·have h1 : (y.toNat == c.toNat) = false := by simp; exact fun e => he (UInt8.toNat_inj.1 e)
   rw [h1, if_neg (by simp), Zde _ (by omega), ih (k + 1) (by omega)]
   have h2 : ¬ c = y := fun e => he e.symm
   simp [h2]
theorem ZCw (c : UInt8) : ZcB ((c.toNat : Nat) : Int) = some (Ztd c) := by
 unfold ZcB; rw [ZyW c _ 0 rfl]; rfl
def cnt (l : List UInt8) : Nat := (l.filter fun c => c.toNat == 45).length
theorem cnt_le (l : List UInt8) : cnt l ≤ l.length := List.length_filter_le _ _
theorem Zwr (s : ByteArray) (hs : s.size ≤ 1000000) : ∀ (d k m : Nat), s.size - k = d → k ≤ s.size → m ≤ k → Zb4 s m k =
  some ((s.data.toList.drop k).all Ztd && (decide (s.size = 1) || decide (m + cnt (s.data.toList.drop k) < s.size))) := by
 intro d
 induction d with
 | zero =>
  intro k m hk hle hm
  have : k = s.size := by omega
  subst this
  rw [Zb4, if_pos (by simp), List.drop_eq_nil_of_le (by rw [sz]; omega)]
  have e1 : (((s.size : Nat) : Int) == 1) = decide (s.size = 1) := by rw [show (1 : Int) = ((1 : Nat) : Int) from rfl, ZdU, Bool.eq_iff_iff, beq_iff_eq, decide_eq_true_iff]
  rw [e1]
  have e2 : decide (((m : Nat) : Int) < ((s.size : Nat) : Int)) = decide (m + cnt ([] : List UInt8) < s.size) := decide_eq_decide.2 (by show _ ↔ m + 0 < s.size; omega)
  rw [e2]; rfl
 | succ d ih =>
  intro k m hk hle hm
  have hlt : k < s.size := by omega
  obtain ⟨y, hy⟩ : ∃ y, s.data.toList[k]? = some y := ⟨_, List.getElem?_eq_getElem (by rw [sz]; exact hlt)⟩
  have hne : ¬ ((((k : Nat) : Int) == ((s.size : Nat) : Int)) = true) := by rw [ZdU, beq_iff_eq]; omega
  rw [Zb4, if_neg hne, Zep, hy]
  simp only [Zn, ZDF, Zi8 hy, List.all_cons]
  cases hc : Ztd y with
  | false => rfl
  | true =>
   rw [show (45 : Int) = ((45 : Nat) : Int) from rfl, ZdU]
   simp only [Bool.not_true, Bool.false_eq_true, if_false, Bool.true_and]
   cases h45 : (y.toNat == 45) with
   | true =>
    rw [if_pos rfl, Zde _ (by omega), Zde _ (by omega), ih (k + 1) (m + 1) (by omega) (by omega) (by omega)]
    have : cnt (y :: s.data.toList.drop (k + 1)) = cnt (s.data.toList.drop (k + 1)) + 1 := by unfold cnt; rw [List.filter_cons, if_pos h45]; rfl
    rw [this, show m + (cnt (s.data.toList.drop (k + 1)) + 1) = m + 1 + cnt (s.data.toList.drop (k + 1)) from by omega]
   | false =>
    rw [if_neg (by simp), Zde _ (by omega), ih (k + 1) m (by omega) (by omega) (by omega)]
    have : cnt (y :: s.data.toList.drop (k + 1)) = cnt (s.data.toList.drop (k + 1)) := by unfold cnt; rw [List.filter_cons, if_neg (by rw [h45]; simp)]
    rw [this]
theorem ZvW (s : ByteArray) (hs : s.size ≤ 1000000) : ∀ (d k m : Nat), s.size - k = d → k ≤ s.size → m ≤ k → ZaN s m k =
  some ((s.data.toList.drop k).all Ztd && (decide (s.size = 1) || decide (m + cnt (s.data.toList.drop k) < s.size))) := by
 intro d
 induction d with
 | zero =>
  intro k m hk hle hm
  have : k = s.size := by omega
  subst this
  rw [ZaN, if_neg (by rw [decide_eq_true_iff]; omega), List.drop_eq_nil_of_le (by rw [sz]; omega)]
  have e1 : (((s.size : Nat) : Int) == 1) = decide (s.size = 1) := by rw [show (1 : Int) = ((1 : Nat) : Int) from rfl, ZdU, Bool.eq_iff_iff, beq_iff_eq, decide_eq_true_iff]
  rw [e1]
  have e2 : decide (((m : Nat) : Int) < ((s.size : Nat) : Int)) = decide (m + cnt ([] : List UInt8) < s.size) := decide_eq_decide.2 (by show _ ↔ m + 0 < s.size; omega)
  rw [e2, Bool.or_comm]; rfl
 | succ d ih =>
  intro k m hk hle hm
  have hlt : k < s.size := by omega
  obtain ⟨y, hy⟩ : ∃ y, s.data.toList[k]? = some y := ⟨_, List.getElem?_eq_getElem (by rw [sz]; exact hlt)⟩
  rw [ZaN, if_pos (by rw [decide_eq_true_iff]; omega), Zep, hy]
  simp only [Zn, ZCw, Zi8 hy, List.all_cons]
  cases hc : Ztd y with
  | false => rfl
  | true =>
   rw [show (45 : Int) = ((45 : Nat) : Int) from rfl, ZdU]
   simp only [Bool.not_true, Bool.false_eq_true, if_false, Bool.true_and]
   cases h45 : (y.toNat == 45) with
   | true =>
    rw [if_pos rfl, Zde _ (by omega), Zde _ (by omega), ih (k + 1) (m + 1) (by omega) (by omega) (by omega)]
    have : cnt (y :: s.data.toList.drop (k + 1)) = cnt (s.data.toList.drop (k + 1)) + 1 := by unfold cnt; rw [List.filter_cons, if_pos h45]; rfl
    rw [this, show m + (cnt (s.data.toList.drop (k + 1)) + 1) = m + 1 + cnt (s.data.toList.drop (k + 1)) from by omega]
   | false =>
    rw [if_neg (by simp), Zde _ (by omega), ih (k + 1) m (by omega) (by omega) (by omega)]
    have : cnt (y :: s.data.toList.drop (k + 1)) = cnt (s.data.toList.drop (k + 1)) := by unfold cnt; rw [List.filter_cons, if_neg (by rw [h45]; simp)]
    rw [this]
def ZeT (l : List UInt8) : Bool := decide (0 < l.length) && decide (l.length ≤ 64) && l.all Ztd && (decide (l.length = 1) || decide (cnt l < l.length))
theorem Zq2 (s : ByteArray) : ZdW s = some (ZeT s.data.toList) := by
 unfold ZdW ZeT
 rw [Znw, sz]
 by_cases hc : (decide (s.size = 0) || decide (((s.size : Nat) : Int) > 64)) = true
 ·rw [if_pos hc]
  rw [Bool.or_eq_true, decide_eq_true_iff, decide_eq_true_iff] at hc
  rcases hc with hc | hc
  ·rw [show decide (0 < s.size) = false from decide_eq_false (by omega)]; rfl
  ·rw [show decide (s.size ≤ 64) = false from decide_eq_false (by omega), Bool.and_false]; rfl
 ·rw [if_neg hc]
  rw [Bool.or_eq_true, decide_eq_true_iff, decide_eq_true_iff] at hc
  rw [Zwr s (by omega) _ 0 0 rfl (by omega) (by omega), List.drop_zero, show decide (0 < s.size) = true from decide_eq_true (by omega), show decide (s.size ≤ 64) = true from decide_eq_true (by omega), Nat.zero_add]; rfl
theorem ZAD (s : ByteArray) : Zdd s = some (ZeT s.data.toList) := by
 unfold Zdd ZeT
 rw [sz]
 by_cases hc : (decide (((s.size : Nat) : Int) < 1) || decide (((s.size : Nat) : Int) > 64)) = true
 ·rw [if_pos hc]
  rw [Bool.or_eq_true, decide_eq_true_iff, decide_eq_true_iff] at hc
  rcases hc with hc | hc
  ·rw [show decide (0 < s.size) = false from decide_eq_false (by omega)]; rfl
  ·rw [show decide (s.size ≤ 64) = false from decide_eq_false (by omega), Bool.and_false]; rfl
 ·rw [if_neg hc]
  rw [Bool.or_eq_true, decide_eq_true_iff, decide_eq_true_iff] at hc
  rw [ZvW s (by omega) _ 0 0 rfl (by omega) (by omega), List.drop_zero, show decide (0 < s.size) = true from decide_eq_true (by omega), show decide (s.size ≤ 64) = true from decide_eq_true (by omega), Nat.zero_add]; rfl

def ZdB : List (List UInt8) := [[97, 115], [99, 97, 115, 101], [99, 108, 97, 115, 115], [100, 97, 116, 97], [100, 101, 114, 105, 118, 105, 110, 103], [100, 111], [101, 108, 115, 101], [104, 105, 100, 105, 110, 103], [105, 102], [105, 109, 112, 111, 114, 116], [105, 110], [105, 110, 102, 105, 120], [105, 110, 102, 105, 120, 108], [105, 110, 102, 105, 120, 114], [105, 110, 115, 116, 97, 110, 99, 101], [108, 101, 116], [109, 111, 100, 117, 108, 101], [111, 102], [113, 117, 97, 108, 105, 102, 105, 101, 100], [116, 104, 101, 110], [119, 104, 101, 114, 101], [95]]
def Zfs : List (List UInt8) := [[46, 46], [58, 58], [61], [92], [124], [60, 45], [45, 62], [64], [126], [61, 62]]
def ZvK (l : List UInt8) : List (List UInt8) → Option Bool
 | [] => some false
 | w :: ws => if (l == w) = true then some true else ZvK l ws
theorem ZmU (l : List UInt8) : ∀ ws, ZvK l ws = some (ws.contains l)
 | [] => rfl
 | w :: ws => by
  unfold ZvK
  rw [ZmU l ws, List.contains_cons]
  cases (l == w) <;> rfl
theorem Zln (c : Bool) (x : Option Bool) : (if c = true then some c else x) = (if c = true then some true else x) := by cases c <;> rfl
theorem ZAu (c : Bool) (x y z : Option Bool) : (if c = true then (if c = true then x else y) else z) = (if c = true then x else z) := by cases c <;> rfl
theorem Zqz (c : Bool) : some c = (if c = true then some true else some false) := by cases c <;> rfl
theorem nk1 (x : Bool) : Zv x = some x := by cases x <;> rfl
theorem rk2 (x : Bool) : ZQ x = some x := by cases x <;> rfl
theorem nsk (x : Bool) : ZT x = some x := by cases x <;> rfl
theorem rsk (x : Bool) : ZC x = some x := by cases x <;> rfl
theorem ZBT (s : ByteArray) : Zcm s = some (ZdB.contains s.data.toList) := by
 rw [← ZmU]
 unfold Zcm
 simp only [nk1, Zln, ZaY]
 rw [Zqz (s.data.toList == _)]
 rfl
theorem ZEG (s : ByteArray) : Zcz s = some (ZdB.contains s.data.toList) := by
 rw [← ZmU]
 unfold Zcz ZP
 simp only [rk2, ZAu, Zln, ZaY]
 rw [Zqz (s.data.toList == _)]
 rfl
theorem ZAE (s : ByteArray) : ZbQ s = some (Zfs.contains s.data.toList) := by
 rw [← ZmU]
 unfold ZbQ
 simp only [nsk, Zln, ZaY]
 rw [Zqz (s.data.toList == _)]
 rfl
theorem ZCI (s : ByteArray) : Zba s = some (Zfs.contains s.data.toList) := by
 rw [← ZmU]
 unfold Zba
 simp only [rsk, Zln, ZaY]
 rw [Zqz (s.data.toList == _)]
 rfl
theorem Zyy {l : List UInt8} (h : ZdB.contains l = true) : Zh4 l = true := by
 have h := List.contains_iff_mem.1 h
 have key : ∀ w ∈ ZdB, Zh4 w = true := by decide
 exact key l h
theorem ZpW {l : List UInt8} (h : Zfs.contains l = true) : ZeT l = true := by
 have h := List.contains_iff_mem.1 h
 have key : ∀ w ∈ Zfs, ZeT w = true := by decide
 exact key l h
theorem Ztm : ∀ c : UInt8, Ztd c = true → wst c = false := by
 intro c h
 have h := List.contains_iff_mem.1 h
 have key : ∀ w ∈ Zu9, wst w = false := by decide
 exact key c h
theorem ZiO {l : List UInt8} (h : Zh4 l = true) : ZeT l = false := by
 cases l with
 | nil => cases h
 | cons c r =>
  rw [Zij, Bool.and_eq_true, Bool.and_eq_true] at h
  cases hs : Ztd c with
  | true => have := Ztm c hs; rw [h.1.2] at this; cases this
  | false => unfold ZeT; rw [List.all_cons, hs]; simp
def ZiL (l : List UInt8) : Bool := match l with | [] => false | c :: _ => Zib c
def Zqu (l : List UInt8) : Bool := match l with | [] => false | c :: _ => c.toNat == 58
def ZdN (l : List UInt8) : Int :=
 if Zh4 l = true then (if ZdB.contains l = true then 5 else if ZiL l = true then 2 else 1)
 else if ZeT l = true then (if Zfs.contains l = true then 6 else if Zqu l = true then 4 else 3) else 0
theorem ZoH {s : ByteArray} (h : 0 < s.size) : ∃ c r, s.data.toList = c :: r ∧ btI s 0 = some c := by
 cases hl : s.data.toList with
 | nil => rw [← sz, hl] at h; cases h
 | cons c r => exact ⟨c, r, rfl, by have := Zep s 0; rw [hl] at this; exact this⟩
theorem Zna {s : ByteArray} (h : ZeT s.data.toList = true) : 0 < s.size ∧ s.size ≤ 64 := by
 unfold ZeT at h
 simp only [Bool.and_eq_true, decide_eq_true_iff, sz] at h
 omega
theorem ZmE (s : ByteArray) : Zbu s = some (ZdN s.data.toList) := by
 unfold Zbu ZdN
 rw [ZDl, Zn]
 cases hw : Zh4 s.data.toList with
 | true =>
  obtain ⟨c, r, hl, hb⟩ := ZoH (Zg7 hw).1
  rw [if_pos rfl, if_pos rfl, ZEG, Zn]
  cases ZdB.contains s.data.toList with
  | true => rfl
  | false =>
   rw [if_neg (by simp), if_neg (by simp), hb, Zn, ZCl, Zn, hl]
   show _ = some (if Zib c = true then 2 else 1)
   cases Zib c <;> rfl
 | false =>
  rw [if_neg (by simp), if_neg (by simp), ZAD, Zn]
  cases hs : ZeT s.data.toList with
  | true =>
   obtain ⟨c, r, hl, hb⟩ := ZoH (Zna hs).1
   rw [if_pos rfl, if_pos rfl, ZCI, Zn]
   cases Zfs.contains s.data.toList with
   | true => rfl
   | false =>
    rw [if_neg (by simp), if_neg (by simp), hb, Zn, show (58 : Int) = ((58 : Nat) : Int) from rfl, ZdU, hl]
    show _ = some (if (c.toNat == 58) = true then 4 else 3)
    cases (c.toNat == 58) <;> rfl
  | false => rfl
def Zie (l : List UInt8) : Bool := (Zh4 l && !ZdB.contains l) || (ZeT l && !Zfs.contains l)
theorem Zvj (l : List UInt8) : ((((ZdN l == 1) || (ZdN l == 2)) || (ZdN l == 3)) || (ZdN l == 4)) = Zie l := by
 unfold ZdN Zie
 cases hw : Zh4 l with
 | true => rw [ZiO hw]; cases ZdB.contains l <;> cases ZiL l <;> rfl
 | false => cases ZeT l <;> cases Zfs.contains l <;> cases Zqu l <;> rfl
theorem ZwW (s : ByteArray) : Zc0 s = some (Zie s.data.toList) := by
 unfold Zc0; rw [ZmE, Zn, Zvj]
theorem Zun (s : ByteArray) : Zee s = some (Zie s.data.toList) := by
 unfold Zee Zie
 rw [ZvG, Zn]
 cases hw : Zh4 s.data.toList with
 | true =>
  rw [ZBT, Zq2, ZiO hw]
  cases ZdB.contains s.data.toList <;> rfl
 | false =>
  rw [Zq2]
  cases ZeT s.data.toList with
  | true => rw [ZAE]; cases Zfs.contains s.data.toList <;> rfl
  | false => rfl
theorem Zys (l : List UInt8) : (ZdN l != 2) = !(Zh4 l && ZiL l && !ZdB.contains l) := by
 unfold ZdN
 cases Zh4 l <;> cases ZdB.contains l <;> cases ZiL l <;> cases ZeT l <;> cases Zfs.contains l <;> cases Zqu l <;> rfl
theorem ZBt {l : List UInt8} (h : ZiL l = true) : ZdB.contains l = false := by
 cases hr : ZdB.contains l with
 | false => rfl
 | true =>
  have hm := List.contains_iff_mem.1 hr
  have key : ∀ w ∈ ZdB, ZiL w = false := by decide
  rw [key l hm] at h; cases h

def mkB (l : List UInt8) : ByteArray := ⟨l.toArray⟩
theorem Zes (l : List UInt8) : (mkB l).data.toList = l := by simp [mkB]
theorem mkB_self (s : ByteArray) : mkB s.data.toList = s := ZfB (Zes _)
theorem ZkQ (l : List UInt8) : (mkB l).size = l.length := by rw [← sz, Zes]
theorem Zng (a b : ByteArray) : (a ++ b).data.toList = a.data.toList ++ b.data.toList := by simp
def okJ (m n : List UInt8) : Bool := Zh4 m && ZiL m && Zie n
theorem Zrx {s : ByteArray} (h : Zie s.data.toList = true) : 0 < s.size ∧ s.size ≤ 64 := by
 unfold Zie at h
 rw [Bool.or_eq_true, Bool.and_eq_true, Bool.and_eq_true] at h
 rcases h with h | h
 ·exact Zg7 h.1
 ·exact Zna h.1
def Zs0 (m n : ByteArray) : ByteArray := if okJ m.data.toList n.data.toList = true then (m ++ ByteArray.mk #[46]) ++ n else ByteArray.mk #[]
theorem Zpk : IntKind.i64.max = 9223372036854775807 := rfl
theorem ZqM (a b : ByteArray) : (a ++ b).size = a.size + b.size := by rw [← sz, Zng, List.length_append, sz, sz]
theorem orT {α : Type} (Y : Option Bool) (G : Bool → Option α) : ((if true = true then some true else Y) >>= G) = G true := rfl
theorem orF {α : Type} (Y : Option Bool) (G : Bool → Option α) : ((if false = true then some true else Y) >>= G) = (Y >>= G) := rfl
theorem ZzU {α : Type} (Y : Option Bool) (G : Bool → Option α) : ((if true = true then Y else some false) >>= G) = (Y >>= G) := rfl
theorem ZDW {α : Type} (Y : Option Bool) (G : Bool → Option α) : ((if false = true then Y else some false) >>= G) = G false := rfl
theorem ifT {α : Type} (a b : α) : (if true = true then a else b) = a := rfl
theorem ifF {α : Type} (a b : α) : (if false = true then a else b) = b := rfl
theorem Zzs {m n : ByteArray} (hm : m.size ≤ 64) (hn : n.size ≤ 64) : (Z4 (((m.size + (ByteArray.mk #[46]).size : Nat) : Int) ≤ IntKind.i64.max) >>= fun _ =>
  Z4 ((((m ++ (ByteArray.mk #[46])).size + n.size : Nat) : Int) ≤ IntKind.i64.max) >>= fun _ => some ((m ++ (ByteArray.mk #[46])) ++ n)) = some ((m ++ (ByteArray.mk #[46])) ++ n) := by
 have e : (ByteArray.mk #[46]).size = 1 := rfl
 have h1 : ((m.size + (ByteArray.mk #[46]).size : Nat) : Int) ≤ IntKind.i64.max := by rw [Zpk, e]; omega
 have h2 : (((m ++ (ByteArray.mk #[46])).size + n.size : Nat) : Int) ≤ IntKind.i64.max := by rw [Zpk, ZqM, e]; omega
 rw [Zde _ h1, Zde _ h2]
theorem ZEo (m n : ByteArray) : ZfV m n = some (Zs0 m n) := by
 unfold ZfV Zs0 okJ
 rw [ZvG, Zn]
 cases hw : Zh4 m.data.toList with
 | false => rw [Bool.not_false, orT, orT, Bool.false_and, Bool.false_and, ifT, ifF]
 | true =>
  obtain ⟨c, r, hl, hb⟩ := ZoH (Zg7 hw).1
  have h64 := Zg7 hw
  have hu : ZiL m.data.toList = Zib c := by rw [hl]; rfl
  rw [Bool.not_true, orF, hb, Zn, ZDN, Zn, Zn, hu]
  cases Zib c with
  | false => rw [Bool.not_false, orT, Bool.and_false, Bool.false_and, ifT, ifF]
  | true =>
   rw [Bool.not_true, orF, Zun, Zn, Zn]
   cases hn : Zie n.data.toList with
   | false => rw [Bool.not_false, ifT, Bool.and_false, ifF]
   | true =>
    have h65 := Zrx hn
    rw [Bool.not_true, ifF, Bool.and_true, Bool.and_true, ifT]
    exact Zzs h64.2 h65.2
theorem ZEk (m n : ByteArray) : ZdL m n = some (Zs0 m n) := by
 unfold ZdL Zs0 okJ
 rw [ZmE, Zn, Zys]
 cases hw : Zh4 m.data.toList with
 | false => rw [show (!(false && ZiL m.data.toList && !ZdB.contains m.data.toList)) = true from rfl, orT, show (false && ZiL m.data.toList && Zie n.data.toList) = false from rfl, ifT, ifF]
 | true =>
  have h64 := Zg7 hw
  cases hu : ZiL m.data.toList with
  | false => rw [show (!(true && false && !ZdB.contains m.data.toList)) = true from rfl, orT, show (true && false && Zie n.data.toList) = false from rfl, ifT, ifF]
  | true =>
   rw [ZBt hu, ZwW, Bool.and_true, Bool.not_false, Bool.and_true, Bool.not_true, orF, Zn, Zn]
   cases hn : Zie n.data.toList with
   | false => rw [Bool.not_false, ifT, Bool.and_false, ifF]
   | true =>
    have h65 := Zrx hn
    rw [Bool.not_true, ifF, Bool.and_true, ifT]
    exact Zzs h64.2 h65.2
theorem Zvi (m n : ByteArray) : ((Zs0 m n).toList == (ByteArray.mk #[]).toList) = !okJ m.data.toList n.data.toList := by
 rw [Znw]
 unfold Zs0
 cases okJ m.data.toList n.data.toList with
 | true =>
  have e : (ByteArray.mk #[46]).size = 1 := rfl
  rw [if_pos rfl]
  exact decide_eq_false (by rw [ZqM, ZqM, e]; omega)
 | false => rfl
def spl : List UInt8 → Option (List UInt8 × List UInt8)
 | [] => none
 | b :: l => if b.toNat = 46 then some ([], l) else (spl l).map fun p => (b :: p.1, p.2)
theorem ZA7 : ∀ l : List UInt8, Lib.cut l [46] = match spl l with | some p => (p.1, p.2, true) | none => (l, [], false) := by
 have key : ∀ l : List UInt8, match spl l with | some p => 0 ≤ Lib.indexByte l 46 ∧ l.take (Lib.indexByte l 46).toNat = p.1 ∧ l.drop ((Lib.indexByte l 46).toNat + 1) = p.2 | none => Lib.indexByte l 46 = -1 := by
  intro l
  induction l with
  | nil => rfl
  | cons b l ih =>
   unfold spl Lib.indexByte
   by_cases hb : b.toNat = 46
   ·have : b = 46 := UInt8.toNat_inj.1 hb
    subst this
    simp
   ·have h2 : (b == 46) = false := by
     rw [beq_eq_false_iff_ne]; rintro rfl; exact hb rfl
    rw [if_neg hb, h2]
    simp only [Bool.false_eq_true, if_false]
    cases hs : spl l with
    | none => rw [hs] at ih; simp only at ih; simp [ih]
    | some p =>
     rw [hs] at ih
     simp only at ih
     obtain ⟨h3, h4, h5⟩ := ih
     have h6 : (Lib.indexByte l 46 == -1) = false := by rw [beq_eq_false_iff_ne]; omega
     simp only [Option.map_some, h6, Bool.false_eq_true, if_false]
     have h7 : (Lib.indexByte l 46 + 1).toNat = (Lib.indexByte l 46).toNat + 1 := by omega
     rw [h7, List.take_succ_cons, List.drop_succ_cons, h4, h5]
     exact ⟨by omega, rfl, rfl⟩
 intro l
 have h := key l
 unfold Lib.cut
 rw [Lib.index_one]
 cases hs : spl l with
 | none => rw [hs] at h; simp only at h; rw [h]; rfl
 | some p =>
  rw [hs] at h
  simp only at h
  rw [if_pos h.1, h.2.1]
  show (_, l.drop (_ + 1), true) = _
  rw [h.2.2]
def Zh8 (s : ByteArray) : ByteArray × ByteArray × Bool :=
 match spl s.data.toList with
 | some p => if okJ p.1 p.2 = true then (mkB p.1, mkB p.2, true) else (ByteArray.mk #[], ByteArray.mk #[], false)
 | none => (ByteArray.mk #[], ByteArray.mk #[], false)
theorem ZwF (s : ByteArray) (hs : s.size ≤ 1000000000) : ZeN s = some (Zh8 s) := by
 unfold ZeN strings_Cut
 rw [Zde _ (by omega), Zn]
 have hc : ZCx s (ByteArray.mk #[46]) = match spl s.data.toList with | some p => (mkB p.1, mkB p.2, true) | none => (mkB s.data.toList, mkB [], false) := by
  unfold ZCx
  have e : (ByteArray.mk #[46]).data.toList = [46] := rfl
  rw [e, ZA7]
  cases spl s.data.toList <;> rfl
 unfold Zh8
 rw [hc]
 cases spl s.data.toList with
 | none => rw [Bool.not_false, orT, ifT]
 | some p =>
  simp only [Bool.not_true]
  rw [orF, ZEo, Zn, Zn, Zvi, Zes, Zes]
  cases okJ p.1 p.2 with
  | true => rw [Bool.not_true, ifF, ifT]
  | false => rw [Bool.not_false, ifT, ifF]
theorem Zos (s : ByteArray) (a b : Nat) (h : a ≤ b) (hb : b ≤ s.size) : slS s ((a : Nat) : Int) ((b : Nat) : Int) = some (s.extract a b) := by
 unfold slS
 rw [if_pos (by omega), Int.toNat_natCast, Int.toNat_natCast]
theorem Zfp (s : ByteArray) (a b : Nat) : (s.extract a b).data.toList = (s.data.toList.drop a).take (b - a) := by
 rw [ByteArray.data_extract, Array.toList_extract, List.extract_eq_take_drop]
theorem Zy6 {l : List UInt8} {k : Nat} {y : UInt8} (h : l[k]? = some y) : spl (l.drop k) = if y.toNat = 46 then some ([], l.drop (k + 1)) else (spl (l.drop (k + 1))).map fun p => (y :: p.1, p.2) := by
 rw [Zi8 h, spl]
theorem Zya (s : ByteArray) (hs : s.size ≤ 1000000000) : ∀ (d k : Nat), s.size - k = d → k ≤ s.size → Zbg s k = some (match spl (s.data.toList.drop k) with
  | some p => if okJ (s.data.toList.take k ++ p.1) p.2 = true then (mkB (s.data.toList.take k ++ p.1), mkB p.2, true) else (ByteArray.mk #[], ByteArray.mk #[], false)
  | none => (ByteArray.mk #[], ByteArray.mk #[], false)) := by
 intro d
 induction d with
 | zero =>
  intro k hk hle
  rw [Zbg, if_neg (by rw [decide_eq_true_iff]; omega), List.drop_eq_nil_of_le (by rw [sz]; omega)]; rfl
 | succ d ih =>
  intro k hk hle
  have hlt : k < s.size := by omega
  obtain ⟨y, hy⟩ : ∃ y, s.data.toList[k]? = some y := ⟨_, List.getElem?_eq_getElem (by rw [sz]; exact hlt)⟩
  rw [Zbg, if_pos (by rw [decide_eq_true_iff]; omega), Zep, hy, Zn, Zy6 hy, show (46 : Int) = ((46 : Nat) : Int) from rfl, bne, ZdU]
  by_cases h46 : y.toNat = 46
  ·have h1 : (y.toNat == 46) = true := by rw [beq_iff_eq]; exact h46
   have hz0 : (s.extract 0 k).data.toList = s.data.toList.take k := by rw [Zfp]; rfl
   have hz1 : (s.extract (k + 1) s.size).data.toList = s.data.toList.drop (k + 1) := by rw [Zfp]; exact List.take_of_length_le (by rw [List.length_drop, sz]; omega)
   have e1 : s.extract 0 k = mkB (s.data.toList.take k) := ZfB (by rw [hz0, Zes])
   have e2 : s.extract (k + 1) s.size = mkB (s.data.toList.drop (k + 1)) := ZfB (by rw [hz1, Zes])
   rw [h1, Bool.not_true, ifF, Zos s 0 k (by omega) (by omega), Zn, Zde _ (by omega), Zdv (by omega), Zos s (k + 1) s.size (by omega) (by omega), Zn, ZEk, Zn, Zvi, hz0, hz1, if_pos h46, Zn, Zde _ (by omega), Zn, e1, e2]
   simp only [List.append_nil]
   cases okJ (s.data.toList.take k) (s.data.toList.drop (k + 1)) with
   | true => rw [Bool.not_true, ifF, ifT]
   | false => rw [Bool.not_false, ifT, ifF]
  ·have h1 : (y.toNat == 46) = false := by rw [beq_eq_false_iff_ne]; exact h46
   rw [h1, Bool.not_false, ifT, Zde _ (by omega), ih (k + 1) (by omega) (by omega), if_neg h46]
   have ht : s.data.toList.take (k + 1) = s.data.toList.take k ++ [y] := by rw [List.take_add_one, hy]; rfl
   cases spl (s.data.toList.drop (k + 1)) with
   | none => rfl
   | some p =>
    simp only [Option.map_some]
    rw [ht, List.append_assoc]; rfl
theorem ZwM (s : ByteArray) (hs : s.size ≤ 1000000000) : Zc4 s = some (Zh8 s) := by
 unfold Zc4 Zh8
 rw [Zya s hs _ 0 rfl (by omega)]; rfl
def ZlX (s : ByteArray) : Bool := (Zh8 s).2.2 || Zie s.data.toList
theorem ZAq (s : ByteArray) (hs : s.size ≤ 1000000000) : ZeS s = some (ZlX s) := by
 unfold ZeS ZlX
 rw [ZwF s hs, Zn]
 cases (Zh8 s).2.2 with
 | true => rfl
 | false => rw [orF, Zun]; rfl
theorem ZAN (s : ByteArray) (hs : s.size ≤ 1000000000) : ZcW s = some (ZlX s) := by
 unfold ZcW ZlX
 rw [ZwM s hs, Zn]
 cases (Zh8 s).2.2 with
 | true => rfl
 | false => rw [orF, ZwW]; rfl

def ZmT (b : UInt8) : Prop := 48 ≤ b.toNat ∧ b.toNat ≤ 57
theorem Zja {k : Nat} (h : k < 10) : (UInt8.ofNat (48 + k)).toNat = 48 + k := by
 rw [UInt8.toNat_ofNat']; omega
theorem Zqx : ∀ (n u : Nat), u ≤ n → ∀ b ∈ Lib.decDigits u, ZmT b := by
 intro n
 induction n with
 | zero =>
  intro u hu b hb
  rw [Lib.decDigits, dif_pos (by omega)] at hb
  simp only [List.mem_singleton] at hb
  subst hb
  unfold ZmT; rw [Zja (by omega)]; omega
 | succ n ih =>
  intro u hu b hb
  rw [Lib.decDigits] at hb
  split at hb
  ·simp only [List.mem_singleton] at hb
   subst hb
   unfold ZmT; rw [Zja (by omega)]; omega
  ·rw [List.mem_append] at hb
   rcases hb with hb | hb
   ·exact ih (u / 10) (by omega) b hb
   ·simp only [List.mem_singleton] at hb
    subst hb
    unfold ZmT; rw [Zja (by omega)]; omega
theorem ZtR : ∀ (k u : Nat), u < 10 ^ (k + 1) → (Lib.decDigits u).length ≤ k + 1
 | 0, u, h => by rw [Lib.decDigits, dif_pos (by simpa using h)]; simp
 | k + 1, u, h => by
  rw [Lib.decDigits]
  split
  ·simp
  ·rw [List.length_append, List.length_singleton]
   have := ZtR k (u / 10) (by rw [Nat.pow_succ] at h; omega)
   omega
theorem Zrp (u : Nat) : Lib.decDigits u ≠ [] := by
 rw [Lib.decDigits]; split <;> simp
theorem Zyj : ∀ (n u : Nat), u ≤ n → u < 18446744073709551616 → ∀ r : List UInt8, Lib.parseUint10 0 (Lib.decDigits u ++ r) = Lib.parseUint10 u r := by
 intro n
 induction n with
 | zero =>
  intro u hu _ r
  obtain rfl : u = 0 := by omega
  rw [Lib.decDigits, dif_pos (by omega)]
  simp only [List.cons_append, List.nil_append, Lib.parseUint10]
  rfl
 | succ n ih =>
  intro u hu hl r
  rw [Lib.decDigits]
  split
  ·rename_i h
   simp only [List.cons_append, List.nil_append, Lib.parseUint10, Zja h]
   rw [if_pos (by omega), if_neg (by omega), if_neg (by omega)]
   congr 1; omega
  ·rename_i h
   rw [List.append_assoc, ih (u / 10) (by omega) (by omega)]
   simp only [List.cons_append, List.nil_append, Lib.parseUint10, Zja (show u % 10 < 10 by omega)]
   rw [if_pos (by omega), if_neg (by omega), if_neg (by omega)]
   congr 1; omega
theorem Zwv {u : Nat} (h : u < 18446744073709551616) : Lib.parseMag (Lib.decDigits u) = .ok u := by
 unfold Lib.parseMag
 rw [if_neg (Zrp u)]
 have := Zyj u u (Nat.le_refl _) h []
 rw [List.append_nil] at this
 rw [this]; rfl
def ZlU (n : Int) : Prop := -9223372036854775808 ≤ n ∧ n ≤ 9223372036854775807
theorem itoa_cons (n : Int) : ∃ b r, Lib.itoa n = b :: r ∧ (b.toNat = 45 ∨ ZmT b) ∧ (∀ x ∈ r, ZmT x) := by
 unfold Lib.itoa
 split
 ·exact ⟨45, _, rfl, .inl rfl, fun x hx => Zqx _ _ (Nat.le_refl _) x hx⟩
 ·cases h : Lib.decDigits n.toNat with
  | nil => exact absurd h (Zrp _)
  | cons b r =>
   have hd := Zqx _ n.toNat (Nat.le_refl _)
   rw [h] at hd
   exact ⟨b, r, rfl, .inr (hd b (by simp)), fun x hx => hd x (by simp [hx])⟩
theorem ZsH {n : Int} (h : ZlU n) : Lib.atoiAll (Lib.itoa n) = .ok n := by
 unfold ZlU at h
 unfold Lib.itoa
 by_cases hn : n < 0
 ·rw [if_pos hn]
  simp only [Lib.atoiAll]
  rw [if_pos (by decide), Zwv (by omega)]
  simp only
  rw [if_neg (by simp), if_neg (by simp; omega), if_pos (by decide)]
  congr 1; omega
 ·rw [if_neg hn]
  cases hd : Lib.decDigits n.toNat with
  | nil => exact absurd hd (Zrp _)
  | cons b r =>
   have hb : ZmT b := Zqx _ n.toNat (Nat.le_refl _) b (by rw [hd]; simp)
   unfold ZmT at hb
   have hm := Zwv (u := n.toNat) (by omega)
   rw [hd] at hm
   simp only [Lib.atoiAll]
   rw [if_neg (by omega), hm]
   simp only
   rw [if_neg (by omega), if_neg (by omega), if_neg (by omega)]
   congr 1; omega
theorem Zzg {n : Int} (h : ZlU n) : (Lib.itoa n).length ≤ 21 := by
 unfold ZlU at h
 unfold Lib.itoa
 have hp : (9223372036854775808 : Nat) < 10 ^ (19 + 1) := by decide
 split
 ·have := ZtR 19 n.natAbs (by omega); simp; omega
 ·have := ZtR 19 n.toNat (by omega); omega
theorem itoaB_list (n : Int) : (ZoU n).toList = Lib.itoa n := by rw [ZaY]; rfl
theorem Zn1 (n : Int) : (ZoU n).data.toList = Lib.itoa n := rfl
theorem atoiR_itoa {n : Int} (h : ZlU n) : ZsX (ZoU n) = (n, false) := by
 unfold ZsX; rw [Zn1, ZsH h]
theorem Zq4 {l : List UInt8} {v : Int} (h : Lib.atoiAll l = .ok v) : ZlU v := by
 unfold ZlU
 cases l with
 | nil => cases h
 | cons c r =>
  simp only [Lib.atoiAll] at h
  split at h
  ·cases h
  ·cases h
  ·rename_i u hu
   split at h
   ·cases h
   ·split at h
    ·cases h
    ·injection h with h
     split at h <;> omega
def ZFt (n : Nat) (c : UInt8) : Nat := 10 * n + (c.toNat - 48)
def Zim (n : Nat) (l : List UInt8) : Nat := l.foldl ZFt n
theorem ZAR (a b : List UInt8) (n : Nat) : Zim n (a ++ b) = Zim (Zim n a) b := List.foldl_append
theorem Zm1 (n : Nat) : Zim n [] = n := List.foldl_nil
theorem Zk6 (n : Nat) (c : UInt8) (l : List UInt8) : Zim n (c :: l) = Zim (10 * n + (c.toNat - 48)) l := List.foldl_cons ..
theorem Zuw (c : UInt8) : Zim 0 [c] = c.toNat - 48 := by rw [Zk6, Zm1]; omega
theorem ZsN (l : List UInt8) (c : UInt8) : Zim 0 (l ++ [c]) = 10 * Zim 0 l + (c.toNat - 48) := by rw [ZAR, Zk6, Zm1]
theorem Zpi : ∀ (l : List UInt8) (n : Nat), n ≤ Zim n l
 | [], n => by rw [Zm1]; exact Nat.le_refl _
 | c :: l, n => by rw [Zk6]; exact Nat.le_trans (by omega) (Zpi l _)
def ZiZ (l : List UInt8) : Bool := match l with
 | [] => false
 | c :: r => (r.isEmpty || !(c.toNat == 48)) && (c :: r).all ZgL && decide (Zim 0 (c :: r) ≤ 9223372036854775807)
theorem Znx (c : UInt8) : ZgL c = true ↔ 48 ≤ c.toNat ∧ c.toNat ≤ 57 := by
 unfold ZgL; rw [Bool.and_eq_true, decide_eq_true_iff, decide_eq_true_iff]
theorem ZBk : ∀ (n u : Nat), u ≤ n → Zim 0 (Lib.decDigits u) = u := by
 intro n
 induction n with
 | zero =>
  intro u hu
  rw [Lib.decDigits, dif_pos (by omega), Zuw, Zja (by omega)]; omega
 | succ n ih =>
  intro u hu
  rw [Lib.decDigits]
  split
  ·rw [Zuw, Zja (by omega)]; omega
  ·rw [ZsN, ih (u / 10) (by omega), Zja (by omega)]; omega
theorem ZyG : ∀ (n u : Nat), u ≤ n → 0 < u → ∀ c r, Lib.decDigits u = c :: r → c.toNat ≠ 48 := by
 intro n
 induction n with
 | zero => intro u hu h0; omega
 | succ n ih =>
  intro u hu h0 c r h
  rw [Lib.decDigits] at h
  split at h
  ·injection h with h; rw [← h, Zja (by omega)]; omega
  ·cases hd : Lib.decDigits (u / 10) with
   | nil => exact absurd hd (Zrp _)
   | cons b r' =>
    rw [hd] at h
    injection h with h
    rw [← h]
    exact ih (u / 10) (by omega) (by omega) b r' hd
theorem Zyo {u : Nat} (h : u ≤ 9223372036854775807) : ZiZ (Lib.decDigits u) = true := by
 cases hd : Lib.decDigits u with
 | nil => exact absurd hd (Zrp _)
 | cons c r =>
  unfold ZiZ
  have hv := ZBk u u (Nat.le_refl _)
  have hall := Zqx u u (Nat.le_refl _)
  rw [hd] at hv hall
  have h1 : (c :: r).all ZgL = true := List.all_eq_true.2 fun x hx => (Znx x).2 (hall x hx)
  have h2 : (r.isEmpty || !(c.toNat == 48)) = true := by
   rcases Nat.eq_zero_or_pos u with h0 | h0
   ·subst h0
    rw [Lib.decDigits, dif_pos (by omega)] at hd
    injection hd with _ hd
    rw [← hd]; rfl
   ·have := ZyG u u (Nat.le_refl _) h0 c r hd
    rw [show (c.toNat == 48) = false from by rw [beq_eq_false_iff_ne]; exact this]; simp
  simp only [h1, h2, hv, Bool.true_and]
  exact decide_eq_true h
theorem ZsP {c : UInt8} {k : Nat} (h : 48 ≤ c.toNat) (hk : k = c.toNat - 48) : UInt8.ofNat (48 + k) = c := by
 apply UInt8.toNat_inj.1
 have := c.toNat_lt
 rw [UInt8.toNat_ofNat', hk]; omega
theorem Zsh : ∀ (n : Nat) (l : List UInt8), l.length = n → l ≠ [] → (∀ x ∈ l, ZgL x = true) → (∀ c r, l = c :: r → r = [] ∨ c.toNat ≠ 48) → Lib.decDigits (Zim 0 l) = l := by
 intro n
 induction n with
 | zero => intro l hl hne; exact absurd (List.eq_nil_of_length_eq_zero hl) hne
 | succ n ih =>
  intro l hl hne hall hh
  rcases List.eq_nil_or_concat l with h0 | ⟨b, c, hc⟩
  ·exact absurd h0 hne
  ·rw [List.concat_eq_append] at hc
   subst hc
   have hcd := (Znx c).1 (hall c (by simp))
   rw [ZsN]
   cases b with
   | nil =>
    rw [Zm1, Lib.decDigits, dif_pos (by omega), ZsP hcd.1 (by omega)]; rfl
   | cons d b =>
    have hlen : (d :: b).length = n := by simp at hl ⊢; omega
    have ZIt : d.toNat ≠ 48 := by
     rcases hh d (b ++ [c]) rfl with h | h
     ·simp at h
     ·exact h
    have hih := ih (d :: b) hlen (by simp) (fun x hx => hall x (by simp at hx ⊢; rcases hx with h | h; exact .inl h; exact .inr (.inl h))) (fun e r he => by injection he with h1 h2; subst h1; exact .inr ZIt)
    have hpos : 0 < Zim 0 (d :: b) := by
     have hdd := (Znx d).1 (hall d (by simp))
     have := Zpi b (10 * 0 + (d.toNat - 48))
     rw [Zk6]; omega
    rw [Lib.decDigits, dif_neg (by omega)]
    have e1 : (10 * Zim 0 (d :: b) + (c.toNat - 48)) / 10 = Zim 0 (d :: b) := by omega
    have e2 : (10 * Zim 0 (d :: b) + (c.toNat - 48)) % 10 = c.toNat - 48 := by omega
    rw [e1, e2, hih, ZsP hcd.1 rfl]
theorem Zsn {l : List UInt8} (h : ZiZ l = true) : Lib.decDigits (Zim 0 l) = l ∧ Zim 0 l ≤ 9223372036854775807 := by
 cases l with
 | nil => cases h
 | cons c r =>
  unfold ZiZ at h
  rw [Bool.and_eq_true, Bool.and_eq_true, decide_eq_true_iff, List.all_eq_true] at h
  refine ⟨Zsh _ (c :: r) rfl (by simp) h.1.2 fun d r' he => ?_, h.2⟩
  injection he with h1 h2
  subst h1 h2
  have := h.1.1
  rw [Bool.or_eq_true] at this
  rcases this with h3 | h3
  ·exact .inl (by simpa using h3)
  ·exact .inr (by simpa using h3)

theorem w64 {x : Int} (h : -9223372036854775808 ≤ x) (h' : x ≤ 9223372036854775807) : IntKind.i64.wrap x = x := IntWalk.i64_in x ⟨h, by omega⟩
theorem w8 {x : Int} (h : 0 ≤ x) (h' : x ≤ 255) : IntKind.u8.wrap x = x := by
 unfold IntKind.wrap
 simp [IntKind.bits, IntKind.signed]
 omega
theorem ZBD (s : ByteArray) (hs : s.size ≤ 1000000000) : ∀ (d k m : Nat), s.size - k = d → k ≤ s.size → m ≤ 9223372036854775807 → ZaX s ((m : Nat) : Int) k =
  some (if ((s.data.toList.drop k).all ZgL && decide (Zim m (s.data.toList.drop k) ≤ 9223372036854775807)) = true then (((Zim m (s.data.toList.drop k) : Nat) : Int), true) else (0, false)) := by
 intro d
 induction d with
 | zero =>
  intro k m hk hle hm
  rw [ZaX, if_neg (by rw [decide_eq_true_iff]; omega), List.drop_eq_nil_of_le (by rw [sz]; omega), Zm1, List.all_nil, Bool.true_and, if_pos (decide_eq_true hm)]
 | succ d ih =>
  intro k m hk hle hm
  have hlt : k < s.size := by omega
  obtain ⟨y, hy⟩ : ∃ y, s.data.toList[k]? = some y := ⟨_, List.getElem?_eq_getElem (by rw [sz]; exact hlt)⟩
  rw [ZaX, if_pos (by rw [decide_eq_true_iff]; omega), Zep, hy, Zn, ZB5, Zn, Zi8 hy, List.all_cons, Zk6]
  cases hd : ZgL y with
  | false => rw [Bool.not_false, ifT, Bool.false_and, Bool.false_and, ifF]
  | true =>
   have hdd := (Znx y).1 hd
   have e8 : IntKind.u8.wrap (((y.toNat : Nat) : Int) - 48) = ((y.toNat - 48 : Nat) : Int) := by rw [w8 (by omega) (by omega)]; omega
   rw [Bool.not_true, ifF, Zn, e8, w64 (x := ((y.toNat - 48 : Nat) : Int)) (by omega) (by omega), w64 (x := 9223372036854775807 - ((y.toNat - 48 : Nat) : Int)) (by omega) (by omega)]
   have et : Int.tdiv (9223372036854775807 - ((y.toNat - 48 : Nat) : Int)) 10 = (9223372036854775807 - ((y.toNat - 48 : Nat) : Int)) / 10 := Int.tdiv_eq_ediv_of_nonneg (by omega)
   rw [et, w64 (x := (9223372036854775807 - ((y.toNat - 48 : Nat) : Int)) / 10) (by omega) (by omega), Bool.true_and]
   by_cases hg : 10 * m + (y.toNat - 48) ≤ 9223372036854775807
   ·rw [if_neg (by rw [decide_eq_true_iff]; omega), Zde _ (by omega), w64 (x := 10 * ((m : Nat) : Int)) (by omega) (by omega), w64 (x := 10 * ((m : Nat) : Int) + ((y.toNat - 48 : Nat) : Int)) (by omega) (by omega)]
    have e : 10 * ((m : Nat) : Int) + ((y.toNat - 48 : Nat) : Int) = ((10 * m + (y.toNat - 48) : Nat) : Int) := by omega
    rw [e, ih (k + 1) (10 * m + (y.toNat - 48)) (by omega) (by omega) hg]
   ·rw [if_pos (by rw [decide_eq_true_iff]; omega)]
    have h1 := Zpi (s.data.toList.drop (k + 1)) (10 * m + (y.toNat - 48))
    rw [show decide (Zim (10 * m + (y.toNat - 48)) (s.data.toList.drop (k + 1)) ≤ 9223372036854775807) = false from decide_eq_false (by omega), Bool.and_false, ifF]
theorem ZAX (s : ByteArray) (hs : s.size ≤ 1000000000) : ZcH s = some (if ZiZ s.data.toList = true then (((Zim 0 s.data.toList : Nat) : Int), true) else (0, false)) := by
 unfold ZcH
 rw [Znw]
 cases hl : s.data.toList with
 | nil =>
  have h0 : s.size = 0 := by rw [← sz, hl]; rfl
  rw [decide_eq_true h0, orT, ifT]; rfl
 | cons c r =>
  have h0 : s.size = r.length + 1 := by rw [← sz, hl]; rfl
  have hb : btI s 0 = some c := by have := Zep s 0; rw [hl] at this; exact this
  rw [decide_eq_false (by omega), orF, hb, Zn, Zn, show (48 : Int) = ((48 : Nat) : Int) from rfl, ZdU]
  have e1 : decide (((s.size : Nat) : Int) > 1) = !r.isEmpty := by
   cases r with
   | nil => exact decide_eq_false (by simp at h0; omega)
   | cons a b => exact decide_eq_true (by simp at h0; omega)
  rw [e1]
  have e2 : ZiZ (c :: r) = ((r.isEmpty || !(c.toNat == 48)) && (c :: r).all ZgL && decide (Zim 0 (c :: r) ≤ 9223372036854775807)) := rfl
  rw [e2]
  cases hz : ((c.toNat == 48) && !r.isEmpty) with
  | true =>
   have : (r.isEmpty || !(c.toNat == 48)) = false := by revert hz; cases (c.toNat == 48) <;> cases r.isEmpty <;> simp
   rw [ifT, this, Bool.false_and, Bool.false_and, ifF]
  | false =>
   have : (r.isEmpty || !(c.toNat == 48)) = true := by revert hz; cases (c.toNat == 48) <;> cases r.isEmpty <;> simp
   have hh := ZBD s hs _ 0 0 rfl (by omega) (by omega)
   rw [ifF, this, Bool.true_and]
   rw [List.drop_zero, hl] at hh
   exact hh

def spd : List UInt8 → Option (List UInt8 × List UInt8)
 | [] => none
 | b :: l => match spd l with
  | some p => some (b :: p.1, p.2)
  | none => if b.toNat = 36 then some ([], l) else none
theorem ZtC : ∀ {l : List UInt8} {p : List UInt8 × List UInt8}, spd l = some p → ∃ b : UInt8, b.toNat = 36 ∧ l = p.1 ++ b :: p.2
 | [], p, h => by cases h
 | c :: l, p, h => by
  unfold spd at h
  cases hs : spd l with
  | some q =>
   rw [hs] at h
   injection h with h
   obtain ⟨b, hb, hl⟩ := ZtC hs
   subst h
   exact ⟨b, hb, by rw [hl]; rfl⟩
  | none =>
   rw [hs] at h
   simp only at h
   split at h
   ·injection h with h; subst h; exact ⟨c, by assumption, rfl⟩
   ·cases h
theorem Zu6 (y : UInt8) : ∀ l : List UInt8, spd (l ++ [y]) = if y.toNat = 36 then some (l, []) else (spd l).map fun p => (p.1, p.2 ++ [y])
 | [] => rfl
 | b :: l => by
  rw [List.cons_append]
  unfold spd
  rw [Zu6 y l]
  by_cases h : y.toNat = 36
  ·rw [if_pos h, if_pos h]
  ·rw [if_neg h, if_neg h]
   cases spd l with
   | some p => rfl
   | none =>
    simp only [Option.map_none]
    split <;> rfl
def ZuC (l : List UInt8) : Int := match spd l with
 | some p => ((p.1.length : Nat) : Int)
 | none => -1
theorem Zzk (s : ByteArray) (hs : s.size ≤ 1000000000) : ∀ k, k ≤ s.size → ZR s 36 (((k : Nat) : Int) - 1) = some (ZuC (s.data.toList.take k)) := by
 intro k
 induction k with
 | zero => intro _; rw [ZR, if_neg (by rw [decide_eq_true_iff]; omega)]; rfl
 | succ k ih =>
  intro hk
  obtain ⟨y, hy⟩ : ∃ y, s.data.toList[k]? = some y := ⟨_, List.getElem?_eq_getElem (by rw [sz]; exact hk)⟩
  have e : ((k + 1 : Nat) : Int) - 1 = ((k : Nat) : Int) := by omega
  rw [e, ZR, if_pos (by rw [decide_eq_true_iff]; omega), Zep, hy, Zn, show (36 : Int) = ((36 : Nat) : Int) from rfl, ZdU]
  have ht : s.data.toList.take (k + 1) = s.data.toList.take k ++ [y] := by rw [List.take_add_one, hy]; rfl
  have hl : (s.data.toList.take k).length = k := by rw [List.length_take, sz]; omega
  unfold ZuC
  rw [ht, Zu6]
  by_cases h : y.toNat = 36
  ·rw [if_pos (by rw [beq_iff_eq]; exact h), if_pos h]; simp only [hl]
  ·rw [if_neg (by rw [beq_iff_eq]; exact h), if_neg h, w64 (by omega) (by omega)]
   have := ih (by omega)
   rw [show ((36 : Nat) : Int) = 36 from rfl, this]
   unfold ZuC
   cases spd (s.data.toList.take k) <;> rfl
theorem ZCo (s : ByteArray) (hs : s.size ≤ 1000000000) : Zb0 s 36 = some (ZuC s.data.toList) := by
 unfold Zb0 Za0
 rw [w64 (by omega) (by omega), Zzk s hs s.size (Nat.le_refl _), Zn, List.take_of_length_le (by rw [sz]; omega)]
def Ziz (s : ByteArray) : ByteArray × Int × Bool :=
 match spd s.data.toList with
 | some p => if (ZlX (mkB p.1) && ZiZ p.2) = true then (mkB p.1, ((Zim 0 p.2 : Nat) : Int), true) else (ByteArray.mk #[], 0, false)
 | none => (ByteArray.mk #[], 0, false)
theorem Zx9 {n : Int} (h : ZlU n) : strconv_Itoa n = some (ZoU n) := by
 unfold strconv_Itoa
 have h' : -9223372036854775808 ≤ n ∧ n ≤ 9223372036854775807 := h
 rw [Zde _ h']
def Zs3 (b : ByteArray) (n : Int) : ByteArray := if (decide (n < 0) || !ZlX b) = true then ByteArray.mk #[] else (b ++ ByteArray.mk #[36]) ++ ZoU n
theorem ZzL {b : ByteArray} {n : Int} (hb : b.size ≤ 1000000000) (hn : ZlU n) : (Z4 (((b.size + (ByteArray.mk #[36]).size : Nat) : Int) ≤ IntKind.i64.max) >>= fun _ => strconv_Itoa n >>= fun r9 =>
  Z4 ((((b ++ (ByteArray.mk #[36])).size + r9.size : Nat) : Int) ≤ IntKind.i64.max) >>= fun _ => some ((b ++ (ByteArray.mk #[36])) ++ r9)) = some ((b ++ (ByteArray.mk #[36])) ++ ZoU n) := by
 have e : (ByteArray.mk #[36]).size = 1 := rfl
 have hl : (ZoU n).size ≤ 21 := by rw [← sz, Zn1]; exact Zzg hn
 have h1 : ((b.size + (ByteArray.mk #[36]).size : Nat) : Int) ≤ IntKind.i64.max := by rw [Zpk, e]; omega
 have h2 : (((b ++ (ByteArray.mk #[36])).size + (ZoU n).size : Nat) : Int) ≤ IntKind.i64.max := by rw [Zpk, ZqM, e]; omega
 rw [Zde _ h1, Zx9 hn, Zn, Zde _ h2]
theorem ZD7 (b : ByteArray) (n : Int) (hb : b.size ≤ 1000000000) (hn : ZlU n) : Zf5 b n = some (Zs3 b n) := by
 unfold Zf5 Zs3
 cases decide (n < 0) with
 | true => rw [orT, Bool.true_or, ifT, ifT]
 | false =>
  rw [orF, ZAq b hb, Zn, Zn, Bool.false_or]
  cases ZlX b with
  | true => rw [Bool.not_true, ifF, ifF]; exact ZzL hb hn
  | false => rw [Bool.not_false, ifT, ifT]
theorem r_made (b : ByteArray) (n : Int) (hb : b.size ≤ 1000000000) (hn : ZlU n) : Zdq b n = some (Zs3 b n) := by
 unfold Zdq Zs3
 rw [ZAN b hb, Zn, Bool.or_comm]
 cases (decide (n < 0) || !ZlX b) with
 | true => rw [ifT, ifT]
 | false => rw [ifF, ifF]; exact ZzL hb hn
theorem Zu5 (a : List UInt8) (b : UInt8) (r : List UInt8) : (a ++ b :: r).take a.length = a ∧ (a ++ b :: r).drop (a.length + 1) = r := by
 constructor
 ·rw [List.take_left']; rfl
 ·rw [← List.drop_drop, List.drop_left']
  ·rfl
  ·rfl
theorem Zn0 {a : List UInt8} (h : ZiZ a = true) : Lib.atoiAll a = .ok ((Zim 0 a : Nat) : Int) := by
 obtain ⟨h1, h2⟩ := Zsn h
 have := ZsH (n := ((Zim 0 a : Nat) : Int)) ⟨by omega, by omega⟩
 unfold Lib.itoa at this
 rw [if_neg (by omega), Int.toNat_natCast, h1] at this
 exact this
theorem Zx7 {a : List UInt8} {v : Int} (h : Lib.atoiAll a = .ok v) : (¬ v < 0 ∧ Lib.itoa v = a) ↔ ZiZ a = true := by
 constructor
 ·rintro ⟨h0, h1⟩
  have hr := Zq4 h
  unfold Lib.itoa at h1
  rw [if_neg h0] at h1
  rw [← h1]
  exact Zyo (by unfold ZlU at hr; omega)
 ·intro hc
  rw [Zn0 hc] at h
  injection h with h
  subst h
  refine ⟨by omega, ?_⟩
  unfold Lib.itoa
  rw [if_neg (by omega), Int.toNat_natCast, (Zsn hc).1]
theorem Zwd (s : ByteArray) (hs : s.size ≤ 1000000000) : ZeZ s = some (Ziz s) := by
 unfold ZeZ Ziz
 rw [ZCo s hs, Zn]
 unfold ZuC
 cases hd : spd s.data.toList with
 | none => rfl
 | some p =>
  obtain ⟨b, hb, hl⟩ := ZtC hd
  have hlen : s.size = p.1.length + 1 + p.2.length := by rw [← sz, hl]; simp; omega
  obtain ⟨t1, t2⟩ := Zu5 p.1 b p.2
  simp only
  have ha : slS s (((p.1.length + 1 : Nat) : Int)) ((s.size : Nat) : Int) = some (mkB p.2) := by
   rw [Zos s _ _ (by omega) (by omega)]
   congr 1
   refine ZfB ?_
   rw [Zfp, Zes, hl, t2]
   exact List.take_of_length_le (by omega)
  have hz : slS s ((0 : Nat) : Int) ((p.1.length : Nat) : Int) = some (mkB p.1) := by
   rw [Zos s _ _ (by omega) (by omega)]
   congr 1
   refine ZfB ?_
   rw [Zfp, Zes, hl]
   exact t1
  rw [if_neg (by rw [decide_eq_true_iff]; omega), Zdv (by omega), ha, Zn]
  have hat : Zft (mkB p.2) = some (ZsX (mkB p.2)) := by unfold Zft; rw [Zde _ (by rw [ZkQ]; omega)]
  rw [hat, Zn, hz]
  unfold ZsX
  rw [Zes]
  have hno : ∀ e, Lib.atoiAll p.2 = e → (∀ v, e ≠ .ok v) → ZiZ p.2 = false := fun e he hv => by
   cases hc : ZiZ p.2 with
   | false => rfl
   | true => exact absurd (he.symm.trans (Zn0 hc)) (hv _)
  cases hat2 : Lib.atoiAll p.2
  rotate_left
  ·rw [hno _ hat2 (by simp), Bool.and_false, ifF]; rfl
  ·rw [hno _ hat2 (by simp), Bool.and_false, ifF]; rfl
  ·rename_i v
   have hr := Zq4 hat2
   have hbk := Zx7 hat2
   simp only
   rw [if_neg (by simp), Zn, ZD7 _ _ (by rw [ZkQ]; omega) hr, Zn]
   have ZII : b = 36 := UInt8.toNat_inj.1 hb
   have hkey : ((Zs3 (mkB p.1) v).toList == s.toList) = (ZlX (mkB p.1) && ZiZ p.2) := by
    rw [ZaY, ZaY, hl]
    unfold Zs3
    cases hst : ZlX (mkB p.1) with
    | false =>
     rw [Bool.not_false, Bool.or_true, ifT, Bool.false_and, beq_eq_false_iff_ne]
     intro h
     have := congrArg List.length h
     simp at this
    | true =>
     rw [Bool.not_true, Bool.or_false, Bool.true_and]
     by_cases hv : v < 0
     ·have hc : ZiZ p.2 = false := by
       cases hc : ZiZ p.2 with
       | false => rfl
       | true => exact absurd hv (hbk.2 hc).1
      rw [decide_eq_true hv, ifT, hc, beq_eq_false_iff_ne]
      intro h
      have := congrArg List.length h
      simp at this
     ·rw [decide_eq_false hv, ifF, Zng, Zng, Zes, Zn1]
      have e36 : (ByteArray.mk #[36]).data.toList = [36] := rfl
      rw [e36, ZII, Bool.eq_iff_iff, beq_iff_eq, ← hbk, List.append_assoc]
      constructor
      ·intro h
       have h2 := List.append_cancel_left h
       injection h2 with _ h3
       exact ⟨hv, h3⟩
      ·rintro ⟨_, h⟩
       rw [h]; rfl
   rw [hkey]
   cases hc : (ZlX (mkB p.1) && ZiZ p.2) with
   | false => rw [Bool.not_false, ifF]; rfl
   | true =>
    rw [Bool.not_true, ifT]
    rw [Bool.and_eq_true] at hc
    have hv := hat2.symm.trans (Zn0 hc.2)
    injection hv with hv
    rw [hv]; rfl

def ZE0 (s : ByteArray) (ZhV : Int) : Option (ByteArray × Int × Bool) :=
 (if (decide (ZhV < 0)) = true then some true else (slS s ((0 : Nat) : Int) ZhV) >>= fun z37 =>
 ZcW z37 >>= fun r38 =>
 some (!r38)) >>= fun c39 =>
 if c39 = true then
 some ((ByteArray.mk #[]), 0, false)
 else
 (slS s (IntKind.i64.wrap (ZhV + 1)) ((s.size : Nat) : Int)) >>= fun z42 =>
 ZcH z42 >>= fun r43 =>
 if (!r43.2) = true then
 some ((ByteArray.mk #[]), 0, false)
 else
 (slS s ((0 : Nat) : Int) ZhV) >>= fun z46 =>
 some (z46, r43.1, true)
theorem ZzZ (s : ByteArray) (hs : s.size ≤ 1000000000) : ∀ (d k : Nat) (ZhV : Int), s.size - k = d → k ≤ s.size → Za6 s ZhV k = ZE0 s (match spd (s.data.toList.drop k) with | some p => (((k + p.1.length : Nat)) : Int) | none => ZhV) := by
 intro d
 induction d with
 | zero =>
  intro k ZhV hk hle
  rw [Za6, if_neg (by rw [decide_eq_true_iff]; omega), List.drop_eq_nil_of_le (by rw [sz]; omega)]; rfl
 | succ d ih =>
  intro k ZhV hk hle
  have hlt : k < s.size := by omega
  obtain ⟨y, hy⟩ : ∃ y, s.data.toList[k]? = some y := ⟨_, List.getElem?_eq_getElem (by rw [sz]; exact hlt)⟩
  rw [Za6, if_pos (by rw [decide_eq_true_iff]; omega), Zep, hy, Zn, show (36 : Int) = ((36 : Nat) : Int) from rfl, ZdU, Zi8 hy]
  have e : spd (y :: s.data.toList.drop (k + 1)) = match spd (s.data.toList.drop (k + 1)) with | some p => some (y :: p.1, p.2) | none => if y.toNat = 36 then some ([], s.data.toList.drop (k + 1)) else none := by rw [spd]; (try (cases spd (s.data.toList.drop (k + 1)) <;> rfl))
  rw [e]
  by_cases h : y.toNat = 36
  ·rw [if_pos (by rw [beq_iff_eq]; exact h), Zde _ (by omega), ih (k + 1) _ (by omega) (by omega), if_pos h]
   cases spd (s.data.toList.drop (k + 1)) with
   | none => rfl
   | some p => simp only [List.length_cons]; congr 1; omega
  ·rw [if_neg (by rw [beq_iff_eq]; exact h), Zde _ (by omega), ih (k + 1) _ (by omega) (by omega), if_neg h]
   cases spd (s.data.toList.drop (k + 1)) with
   | none => rfl
   | some p => simp only [List.length_cons]; congr 1; omega
theorem Zz2 (s : ByteArray) (hs : s.size ≤ 1000000000) : ZcV s = some (Ziz s) := by
 unfold ZcV Ziz
 rw [ZzZ s hs _ 0 (-1) rfl (by omega), List.drop_zero]
 cases hd : spd s.data.toList with
 | none => rfl
 | some p =>
  obtain ⟨b, hb, hl⟩ := ZtC hd
  have hlen : s.size = p.1.length + 1 + p.2.length := by rw [← sz, hl]; simp; omega
  obtain ⟨t1, t2⟩ := Zu5 p.1 b p.2
  have ha : slS s (((p.1.length + 1 : Nat) : Int)) ((s.size : Nat) : Int) = some (mkB p.2) := by
   rw [Zos s _ _ (by omega) (by omega)]
   congr 1
   refine ZfB ?_
   rw [Zfp, Zes, hl, t2]
   exact List.take_of_length_le (by omega)
  have hz : slS s ((0 : Nat) : Int) ((p.1.length : Nat) : Int) = some (mkB p.1) := by
   rw [Zos s _ _ (by omega) (by omega)]
   congr 1
   refine ZfB ?_
   rw [Zfp, Zes, hl]
   exact t1
  simp only [Nat.zero_add]
  unfold ZE0
  rw [decide_eq_false (by omega), orF, hz, Zn, ZAN _ (by rw [ZkQ]; omega), Zn, Zn, Zdv (by omega), ha]
  cases ZlX (mkB p.1) with
  | false => rw [Bool.not_false, ifT, Bool.false_and, ifF]
  | true =>
   rw [Bool.not_true, ifF, Zn, ZAX _ (by rw [ZkQ]; omega), Zn, Zes, Bool.true_and]
   cases ZiZ p.2 with
   | false => rfl
   | true => rfl
def Zmb (s : ByteArray) : Bool := if (Ziz s).2.2 = true then ZdN (Ziz s).1.data.toList == 1 else (ZdN s.data.toList == 1 && !(s.toList == [102, 111, 114, 97, 108, 108]))
theorem ZtT (s : ByteArray) (hs : s.size ≤ 1000000000) : Zdm s = some (if ZdN s.data.toList = 0 then (if (Ziz s).2.2 = true then 7 else 0) else ZdN s.data.toList) := by
 unfold Zdm ZdN
 rw [ZBT, Zn, ZAE, ZvG, Zq2]
 cases hw : Zh4 s.data.toList with
 | true =>
  obtain ⟨c, r, hl, hb⟩ := ZoH (Zg7 hw).1
  have hns : Zfs.contains s.data.toList = false := by
   cases h : Zfs.contains s.data.toList with
   | false => rfl
   | true => have := ZpW h; rw [ZiO hw] at this; cases this
  cases ZdB.contains s.data.toList with
  | true => rfl
  | false =>
   rw [ifF, Zn, hns, ifF, Zn, hb, ZzU, Zn, ZDN, Zn, Zn, Zn, ifT, ifT, ifF]
   have hu : ZiL s.data.toList = Zib c := by rw [hl]; rfl
   rw [hu]
   cases Zib c <;> rfl
 | false =>
  have hnr : ZdB.contains s.data.toList = false := by
   cases h : ZdB.contains s.data.toList with
   | false => rfl
   | true => have := Zyy h; rw [hw] at this; cases this
  rw [hnr, ifF, Zn, ifF]
  cases hsy : ZeT s.data.toList with
  | true =>
   obtain ⟨c, r, hl, hb⟩ := ZoH (Zna hsy).1
   have hu : Zqu s.data.toList = (c.toNat == 58) := by rw [hl]; rfl
   rw [hu]
   cases Zfs.contains s.data.toList with
   | true => rfl
   | false =>
    rw [ifF, Zn, ZDW, ifF, Zn, ifF, Zn, hb, ZzU, Zn, show (58 : Int) = ((58 : Nat) : Int) from rfl, ZdU, Zn, Zn, ifT, ifT, ifF]
    cases (c.toNat == 58) <;> rfl
  | false =>
   have hnr2 : Zfs.contains s.data.toList = false := by
    cases h : Zfs.contains s.data.toList with
    | false => rfl
    | true => have := ZpW h; rw [hsy] at this; cases this
   rw [hnr2, ifF, Zn, ZDW, ifF, Zn, ifF, Zn, ZDW, ifF, Zn, ifF, Zwd s hs, Zn]
   cases (Ziz s).2.2 <;> rfl

theorem ZpA (s : ByteArray) : (Ziz s).1.size ≤ s.size := by
 unfold Ziz
 cases hd : spd s.data.toList with
 | none => exact Nat.zero_le _
 | some p =>
  obtain ⟨b, hb, hl⟩ := ZtC hd
  have hlen : s.size = p.1.length + 1 + p.2.length := by rw [← sz, hl]; simp; omega
  simp only
  split
  ·show (mkB p.1).size ≤ _; rw [ZkQ]; omega
  ·exact Nat.zero_le _
theorem ZwY : ∀ {l : List UInt8} {p : List UInt8 × List UInt8}, spl l = some p → p.1.length + p.2.length < l.length
 | [], p, h => by cases h
 | b :: l, p, h => by
  unfold spl at h
  split at h
  ·injection h with h; subst h; simp
  ·obtain ⟨q, hq, rfl⟩ := Option.map_eq_some_iff.1 h
   have := ZwY hq
   simp only [List.length_cons]; omega
theorem Zwa (s : ByteArray) : (Zh8 s).2.1.size ≤ s.size := by
 unfold Zh8
 cases hd : spl s.data.toList with
 | none => exact Nat.zero_le _
 | some p =>
  have := ZwY hd
  rw [sz] at this
  simp only
  split
  ·show (mkB p.2).size ≤ _; rw [ZkQ]; omega
  ·exact Nat.zero_le _
theorem ZtJ (s : ByteArray) (k : Int) (h0 : k ≠ 0) (h7 : k ≠ 7) : ((if ZdN s.data.toList = 0 then (if (Ziz s).2.2 = true then (7 : Int) else 0) else ZdN s.data.toList) == k) = (ZdN s.data.toList == k) := by
 by_cases h : ZdN s.data.toList = 0
 ·rw [if_pos h, h]
  have e0 : ((0 : Int) == k) = false := by rw [beq_eq_false_iff_ne]; exact fun e => h0 e.symm
  have e7 : ((7 : Int) == k) = false := by rw [beq_eq_false_iff_ne]; exact fun e => h7 e.symm
  split
  ·rw [e7, e0]
  ·rfl
 ·rw [if_neg h]
theorem ZAA (s : ByteArray) (hs : s.size ≤ 1000000000) : Za7 s = some (Zmb s) := by
 unfold Za7 Zmb
 rw [Zwd s hs, Zn]
 cases (Ziz s).2.2 with
 | true =>
  have := ZpA s
  rw [ifT, ifT, ZtT _ (by omega), Zn, ZtJ _ 1 (by decide) (by decide)]
 | false =>
  rw [ifF, ifF, ZtT _ hs, Zn, ZtJ _ 1 (by decide) (by decide), ZaY (ByteArray.mk #[102, 111, 114, 97, 108, 108])]
theorem ZB2 (s : ByteArray) (hs : s.size ≤ 1000000000) : ZbE s = some (Zmb s) := by
 unfold ZbE Zmb
 rw [Zz2 s hs, Zn]
 cases (Ziz s).2.2 with
 | true => rw [ifT, ifT, ZmE, Zn]
 | false => rw [ifF, ifF, ZmE, Zn, ZaY (ByteArray.mk #[102, 111, 114, 97, 108, 108])]
def unS (b : ByteArray) : ByteArray := if (Zh8 b).2.2 = true then (Zh8 b).2.1 else b
def ZvA (s : ByteArray) : Bool :=
 let b := unS (if (Ziz s).2.2 = true then (Ziz s).1 else s)
 (ZdN b.data.toList == 2) || (ZdN b.data.toList == 4)
theorem ZAM (b : ByteArray) (hs : b.size ≤ 1000000000) : Zc2 b = some ((ZdN b.data.toList == 2) || (ZdN b.data.toList == 4)) := by
 unfold Zc2
 rw [ZtT b hs, Zn, ZtJ _ 2 (by decide) (by decide), ZtJ _ 4 (by decide) (by decide)]
theorem Zzy (b : ByteArray) (hs : b.size ≤ 1000000000) : Zc1 b = some ((ZdN (unS b).data.toList == 2) || (ZdN (unS b).data.toList == 4)) := by
 unfold Zc1 unS
 rw [ZwF b hs, Zn]
 cases (Zh8 b).2.2 with
 | true => have := Zwa b; rw [ifT, ifT, ZAM _ (by omega)]
 | false => rw [ifF, ifF, ZAM _ hs]
theorem ZFQ (s : ByteArray) (hs : s.size ≤ 1000000000) : Zem s = some (ZvA s) := by
 unfold Zem ZvA
 rw [Zwd s hs, Zn]
 cases (Ziz s).2.2 with
 | true => have := ZpA s; rw [ifT, Zzy _ (by omega)]; rfl
 | false => rw [ifF, Zzy _ hs]; rfl
theorem ZzH (b : ByteArray) : Zbl b = some ((ZdN b.data.toList == 2) || (ZdN b.data.toList == 4)) := by
 unfold Zbl
 rw [ZmE, Zn]
theorem Zzb (b : ByteArray) (hs : b.size ≤ 1000000000) : Zbk b = some ((ZdN (unS b).data.toList == 2) || (ZdN (unS b).data.toList == 4)) := by
 unfold Zbk unS
 rw [ZwM b hs, Zn]
 cases (Zh8 b).2.2 with
 | true => rw [ifT, ifT, ZzH]
 | false => rw [ifF, ifF, ZzH]
theorem ZEE (s : ByteArray) (hs : s.size ≤ 1000000000) : ZcC s = some (ZvA s) := by
 unfold ZcC ZvA
 rw [Zz2 s hs, Zn]
 cases (Ziz s).2.2 with
 | true => have := ZpA s; rw [Bool.not_true, ifF, Zzb _ (by omega)]; rfl
 | false => rw [Bool.not_false, ifT, Zzb _ hs]; rfl

theorem ZDV {s : ByteArray} {k : Nat} {y : UInt8} (h : s.data.toList[k]? = some y) : s.get! k = y := by
 obtain ⟨h1, h2⟩ := List.getElem?_eq_some_iff.1 h
 have hk : k < s.data.size := by simpa using h1
 show s.data[k]! = y
 rw [getElem!_pos s.data k hk]
 simpa using h2
theorem Zx0 (s : ByteArray) {k : Nat} {y : UInt8} (h : s.data.toList[k]? = some y) : ((Utf8.decode s k).1 = 44 ↔ y.toNat = 44) ∧ (y.toNat = 44 → (Utf8.decode s k).2 = 1) := by
 have hy := ZDV h
 have hre : Utf8.runeError ≠ 44 := by decide
 unfold Utf8.decode
 simp only [Nat.add_zero, hy]
 by_cases h1 : y.toNat < 128
 ·rw [if_pos h1]; exact ⟨Iff.rfl, fun _ => rfl⟩
 ·rw [if_neg h1]
  refine ⟨⟨fun h2 => ?_, fun h2 => by omega⟩, fun h2 => by omega⟩
  exfalso
  revert h2
  repeat' split
  all_goals first | (intro h2; exact hre h2) | (intro h2; simp only at h2; simp_all; done) | (intro h2; simp only at h2; rename_i q; simp only [Bool.and_eq_true, decide_eq_true_iff] at q; omega) | (intro h2; simp only at h2; rename_i q; omega)
theorem ZBl (z : ByteArray) : ∀ (d k : Nat), z.size - k = d → Zb9 z k = some ((z.data.toList.drop k).all fun c => c.toNat == 44) := by
 intro d
 induction d with
 | zero =>
  intro k hk
  rw [Zb9, if_neg (by rw [decide_eq_true_iff]; omega), List.drop_eq_nil_of_le (by rw [sz]; omega)]; rfl
 | succ d ih =>
  intro k hk
  obtain ⟨y, hy⟩ : ∃ y, z.data.toList[k]? = some y := ⟨_, List.getElem?_eq_getElem (by rw [sz]; omega)⟩
  obtain ⟨h1, h2⟩ := Zx0 z hy
  rw [Zb9, if_pos (by rw [decide_eq_true_iff]; omega), Zi8 hy, List.all_cons, show (44 : Int) = ((44 : Nat) : Int) from rfl, bne, ZdU]
  by_cases h : y.toNat = 44
  ·rw [h1.2 h, h2 h, ih (k + 1) (by omega), h]; rfl
  ·have e : ((Utf8.decode z k).1 == 44) = false := by rw [beq_eq_false_iff_ne]; exact fun q => h (h1.1 q)
   have e2 : (y.toNat == 44) = false := by rw [beq_eq_false_iff_ne]; exact h
   rw [e, e2]; rfl

def Zt6 (j : Nat) : List UInt8 := 40 :: (List.replicate j 44 ++ [41])
theorem ZuR (j : Nat) : (Zt6 j).length = j + 2 := by unfold Zt6; simp
def Zr6 (l : List UInt8) : Bool := (List.range 6).any fun j => l == Zt6 (j + 1)
theorem shape {l : List UInt8} {a b : UInt8} (h3 : 3 ≤ l.length) (ha : l[0]? = some a) (hb : l[l.length - 1]? = some b) : l = a :: ((l.drop 1).take (l.length - 2) ++ [b]) := by
 cases l with
 | nil => simp at h3
 | cons c t =>
  have hc : c = a := by simpa using ha
  subst hc
  have ht : t ≠ [] := by intro h; subst h; simp at h3
  have hlast : t.getLast ht = b := by
   rw [List.getLast_eq_getElem]
   have : (c :: t)[(c :: t).length - 1]? = t[t.length - 1]? := by
    have e : (c :: t).length - 1 = (t.length - 1) + 1 := by simp only [List.length_cons] at h3 ⊢; omega
    rw [e, List.getElem?_cons_succ]
   rw [this] at hb
   exact (List.getElem?_eq_some_iff.1 hb).2
  have e2 : (c :: t).length - 2 = t.length - 1 := by simp only [List.length_cons]; omega
  rw [e2]
  show c :: t = c :: (t.take (t.length - 1) ++ [b])
  rw [← List.dropLast_eq_take, ← hlast, List.dropLast_concat_getLast]
theorem ZBB {l : List UInt8} {a b : UInt8} (h3 : 3 ≤ l.length) (h8 : l.length ≤ 8) (ha : l[0]? = some a) (hb : l[l.length - 1]? = some b) :
  Zr6 l = (a.toNat == 40 && b.toNat == 41 && ((l.drop 1).take (l.length - 2)).all fun c => c.toNat == 44) := by
 have hs := shape h3 ha hb
 have hml : ((l.drop 1).take (l.length - 2)).length = l.length - 2 := by rw [List.length_take, List.length_drop]; omega
 rw [Bool.eq_iff_iff]
 unfold Zr6
 rw [List.any_eq_true, Bool.and_eq_true, Bool.and_eq_true, beq_iff_eq, beq_iff_eq, List.all_eq_true]
 constructor
 ·rintro ⟨j, hj, h⟩
  rw [beq_iff_eq] at h
  have hl := congrArg List.length h
  rw [ZuR] at hl
  have hj2 : l.length - 2 = j + 1 := by omega
  rw [hj2] at hs ⊢
  rw [h] at hs
  unfold Zt6 at hs
  injection hs with h1 h2
  have h4 := List.append_inj h2 (by rw [List.length_replicate, List.length_take, List.length_drop]; simp)
  refine ⟨⟨by rw [← h1]; rfl, ?_⟩, fun x hx => ?_⟩
  ·have := h4.2; injection this with h5; rw [← h5]; rfl
  ·rw [h] at hx
   unfold Zt6 at hx
   rw [← h4.1] at hx
   rw [List.eq_of_mem_replicate hx]; rfl
 ·rintro ⟨⟨h1, h2⟩, h4⟩
  refine ⟨l.length - 3, List.mem_range.2 (by omega), ?_⟩
  rw [beq_iff_eq]
  have ZHv : a = 40 := UInt8.toNat_inj.1 h1
  have ZGN : b = 41 := UInt8.toNat_inj.1 h2
  have hm : (l.drop 1).take (l.length - 2) = List.replicate (l.length - 2) 44 := by
   refine List.eq_replicate_iff.2 ⟨hml, fun x hx => ?_⟩
   have := h4 x hx
   rw [beq_iff_eq] at this
   exact UInt8.toNat_inj.1 this
  rw [hm, ZHv, ZGN] at hs
  unfold Zt6
  rw [show l.length - 3 + 1 = l.length - 2 from by omega]
  exact hs
def ZuJ (l : List UInt8) : Bool := (l == [45, 62] || l == [91, 93]) || l == [40, 41]
theorem ZEI (s : ByteArray) (hs : s.size ≤ 1000000000) : Zeo s = some (ZuJ s.data.toList || Zr6 s.data.toList) := by
 unfold Zeo
 have e0 : (((s.toList == (ByteArray.mk #[45, 62]).toList) || (s.toList == (ByteArray.mk #[91, 93]).toList)) || (s.toList == (ByteArray.mk #[40, 41]).toList)) = ZuJ s.data.toList := by
  rw [ZaY, ZaY, ZaY, ZaY]; rfl
 rw [e0]
 cases ZuJ s.data.toList with
 | true => rfl
 | false =>
  rw [ifF, Bool.false_or]
  by_cases hn : 3 ≤ s.size ∧ s.size ≤ 8
  ·have hlen : s.data.toList.length = s.size := sz s
   obtain ⟨a, ha⟩ : ∃ a, s.data.toList[0]? = some a := ⟨_, List.getElem?_eq_getElem (by omega)⟩
   obtain ⟨b, hb⟩ : ∃ b, s.data.toList[s.size - 1]? = some b := ⟨_, List.getElem?_eq_getElem (by omega)⟩
   have hc : (decide (((s.size : Nat) : Int) < 3) || decide (((s.size : Nat) : Int) > 8)) = false := by
    rw [Bool.or_eq_false_iff]; exact ⟨decide_eq_false (by omega), decide_eq_false (by omega)⟩
   have hb0 : btI s 0 = some a := by have := Zep s 0; rw [ha] at this; exact this
   have e1 : IntKind.i64.wrap (((s.size : Nat) : Int) - 1) = ((s.size - 1 : Nat) : Int) := by rw [w64 (by omega) (by omega)]; omega
   rw [ZBB (by omega) (by omega) ha (by rw [hlen]; exact hb), hc, orF, hb0, Zn, Zn, show (40 : Int) = ((40 : Nat) : Int) from rfl, bne, ZdU]
   cases h40 : (a.toNat == 40) with
   | false => rw [Bool.not_false, orT, ifT]; rfl
   | true =>
    rw [Bool.not_true, orF, e1, Zep, hb, Zn, Zn, show (41 : Int) = ((41 : Nat) : Int) from rfl, bne, ZdU]
    cases h41 : (b.toNat == 41) with
    | false => rw [Bool.not_false, ifT]; rfl
    | true =>
     have hsl : slS s 1 ((s.size - 1 : Nat) : Int) = some (s.extract 1 (s.size - 1)) := Zos s 1 (s.size - 1) (by omega) (by omega)
     rw [Bool.not_true, ifF, hsl, Zn, ZBl _ _ 0 rfl, List.drop_zero, Zfp, hlen, show s.size - 1 - 1 = s.size - 2 from by omega]; rfl
  ·have hc : (decide (((s.size : Nat) : Int) < 3) || decide (((s.size : Nat) : Int) > 8)) = true := by
    rw [Bool.or_eq_true, decide_eq_true_iff, decide_eq_true_iff]; omega
   rw [hc, orT, orT, ifT]
   have : Zr6 s.data.toList = false := by
    cases h : Zr6 s.data.toList with
    | false => rfl
    | true =>
     unfold Zr6 at h
     rw [List.any_eq_true] at h
     obtain ⟨j, hj, h⟩ := h
     rw [beq_iff_eq] at h
     have hl := congrArg List.length h
     rw [ZuR, sz] at hl
     have := List.mem_range.1 hj
     omega
   rw [this]

theorem ZH1 (n : Nat) (hn : n ≤ 1000) : ∀ (d i : Nat) (s : ByteArray), n - i = d → i ≤ n → s.size ≤ i + 1 → Zax ((n : Nat) : Int) s i = some (mkB (s.data.toList ++ (List.replicate (n - i) 44 ++ [41]))) := by
 have e41 : (ByteArray.mk #[41]).size = 1 := rfl
 have e44 : (ByteArray.mk #[44]).size = 1 := rfl
 intro d
 induction d with
 | zero =>
  intro i s hd hi hs
  rw [Zax, if_neg (by rw [decide_eq_true_iff]; omega), Zde _ (by rw [Zpk, e41]; omega), show n - i = 0 from by omega]
  exact congrArg some (ZfB (by rw [Zng, Zes]; rfl))
 | succ d ih =>
  intro i s hd hi hs
  rw [Zax, if_pos (by rw [decide_eq_true_iff]; omega), Zde _ (by rw [Zpk, e44]; omega), Zde _ (by omega), ih (i + 1) _ (by omega) (by omega) (by rw [ZqM, e44]; omega)]
  congr 2
  rw [Zng, show n - i = (n - (i + 1)) + 1 from by omega, List.replicate_succ, List.append_assoc]; rfl
theorem tn (n : Nat) (h1 : 1 ≤ n) (hn : n ≤ 1000) : Zcj ((n : Nat) : Int) = some (mkB (Zt6 (n - 1))) := by
 unfold Zcj
 rw [ZH1 n hn _ 1 _ rfl h1 (by decide)]
 rfl
theorem ZHK (s : ByteArray) : ∀ (d k : Nat), 8 - k = d → 2 ≤ k → k ≤ 8 → ∃ r, Zbh s k = some r ∧ decide (r > 0) = (List.range' k (8 - k)).any fun j => s.data.toList == Zt6 (j - 1) := by
 intro d
 induction d with
 | zero =>
  intro k hd h2 h8
  refine ⟨0, ?_, ?_⟩
  ·rw [Zbh, if_neg (by rw [decide_eq_true_iff]; omega)]
  ·rw [hd]; rfl
 | succ d ih =>
  intro k hd h2 h8
  obtain ⟨r, hr, hr2⟩ := ih (k + 1) (by omega) (by omega) (by omega)
  rw [Zbh, if_pos (by rw [decide_eq_true_iff]; omega), tn k (by omega) (by omega), Zn, ZaY, ZaY, Zes]
  have e : List.range' k (8 - k) = k :: List.range' (k + 1) (8 - (k + 1)) := by rw [show 8 - k = (8 - (k + 1)) + 1 from by omega]; exact List.range'_succ ..
  rw [e, List.any_cons]
  cases h : (s.data.toList == Zt6 (k - 1)) with
  | true => exact ⟨_, by rw [ifT], by rw [Bool.true_or]; exact decide_eq_true (by omega)⟩
  | false => exact ⟨r, by rw [ifF, Zde _ (by omega), hr], by rw [Bool.false_or, hr2]⟩
theorem ZBy (s : ByteArray) : ∃ r, ZdS s = some r ∧ decide (r > 0) = Zr6 s.data.toList := by
 obtain ⟨r, h1, h2⟩ := ZHK s 6 2 rfl (by omega) (by omega)
 refine ⟨r, h1, h2.trans ?_⟩
 unfold Zr6
 rfl
def ZxO (s : ByteArray) : Bool := (ZuJ s.data.toList || Zr6 s.data.toList) || ZvA s
theorem ZFL (s : ByteArray) (hs : s.size ≤ 1000000000) : ZcR s = some (ZxO s) := by
 unfold ZcR ZxO
 have e0 : ∀ o : Bool, (((o || (s.toList == (ByteArray.mk #[45, 62]).toList)) || (s.toList == (ByteArray.mk #[91, 93]).toList)) || (s.toList == (ByteArray.mk #[40, 41]).toList)) = (o || ZuJ s.data.toList) := fun o => by
  rw [ZaY, ZaY, ZaY, ZaY]
  unfold ZuJ
  simp only [Bool.or_assoc]
 obtain ⟨r, h1, h2⟩ := ZBy s
 rw [ZEE s hs, Zn, e0, h1]
 cases ZvA s with
 | true => rw [Bool.true_or, orT, Bool.or_true]
 | false =>
  rw [Bool.false_or, Bool.or_false]
  cases ZuJ s.data.toList with
  | true => rfl
  | false => rw [orF, Zn, Zn, h2, Bool.false_or]

mutual
def Za.nod : Za → Nat | .mk _ _ _ ks => 1 + Za.nods ks
def Za.nods : List Za → Nat
 | [] => 0
 | k :: ks => Za.nod k + Za.nods ks
end
mutual
def Zk.nod : Zk → Nat | .mk ks => 1 + Zk.nods ks
def Zk.nods : List Zk → Nat
 | [] => 0
 | k :: ks => Zk.nod k + Zk.nods ks
end
theorem ZpK (t : Za) : t.nod = 1 + Za.nods t.fKids := by cases t; rw [Za.nod]; rfl
theorem ZlM (t : Zk) : t.nod = 1 + Zk.nods t.fArgs := by cases t; rw [Zk.nod]; rfl
theorem Zhg (k : Za) (ks : List Za) : Za.nods (k :: ks) = k.nod + Za.nods ks := by rw [Za.nods]
theorem Zg2 (k : Zk) (ks : List Zk) : Zk.nods (k :: ks) = k.nod + Zk.nods ks := by rw [Zk.nods]
def BIG : Nat := 1000000000000
theorem Zuu (t : Za) : ∀ (xs : List Za) (n x : Nat), (∀ k ∈ xs, k.nod ≤ BIG → ZcE k = some ((k.nod : Nat) : Int)) → n + Za.nods xs ≤ BIG → ZcU ((n : Nat) : Int) t x xs = some ((n + Za.nods xs : Nat) : Int)
 | [], n, x, _, _ => by rw [ZcU, Za.nods]; rfl
 | k :: xs, n, x, h, hb => by
  rw [Zhg] at hb ⊢
  have hB : BIG = 1000000000000 := rfl
  rw [ZcU, h k (by simp) (by omega), Zn, w64 (by omega) (by omega)]
  have := Zuu t xs (n + k.nod) (x + 1) (fun j hj => h j (by simp [hj])) (by omega)
  rw [show ((n : Nat) : Int) + ((k.nod : Nat) : Int) = ((n + k.nod : Nat) : Int) from by omega, this, Nat.add_assoc]
theorem Zz1 (t : Za) : t.nod ≤ BIG → ZcE t = some ((t.nod : Nat) : Int) := by
 refine Za.ind (M := fun t => t.nod ≤ BIG → ZcE t = some ((t.nod : Nat) : Int)) (fun v ih hb => ?_) t
 rw [ZpK] at hb ⊢
 rw [ZcE]
 exact Zuu v v.fKids 1 0 ih hb
theorem ZuH (t : Za) : ∀ (xs : List Za) (n x : Nat), (∀ k ∈ xs, k.nod ≤ BIG → ZaK k = some ((k.nod : Nat) : Int)) → n + Za.nods xs ≤ BIG → Za9 ((n : Nat) : Int) x t xs = some ((n + Za.nods xs : Nat) : Int)
 | [], n, x, _, _ => by rw [Za9, Za.nods]; rfl
 | k :: xs, n, x, h, hb => by
  rw [Zhg] at hb ⊢
  have hB : BIG = 1000000000000 := rfl
  rw [Za9, h k (by simp) (by omega), Zn, w64 (by omega) (by omega)]
  have := ZuH t xs (n + k.nod) (x + 1) (fun j hj => h j (by simp [hj])) (by omega)
  rw [show ((n : Nat) : Int) + ((k.nod : Nat) : Int) = ((n + k.nod : Nat) : Int) from by omega, this, Nat.add_assoc]
theorem Zv2 (t : Za) : t.nod ≤ BIG → ZaK t = some ((t.nod : Nat) : Int) := by
 refine Za.ind (M := fun t => t.nod ≤ BIG → ZaK t = some ((t.nod : Nat) : Int)) (fun v ih hb => ?_) t
 rw [ZpK] at hb ⊢
 rw [ZaK]
 exact ZuH v v.fKids 1 0 ih hb
theorem ZsR (t : Zk) : ∀ (xs : List Zk) (n x : Nat), (∀ k ∈ xs, k.nod ≤ BIG → ZbP k = some ((k.nod : Nat) : Int)) → n + Zk.nods xs ≤ BIG → Zbv ((n : Nat) : Int) t x xs = some ((n + Zk.nods xs : Nat) : Int)
 | [], n, x, _, _ => by rw [Zbv, Zk.nods]; rfl
 | k :: xs, n, x, h, hb => by
  rw [Zg2] at hb ⊢
  have hB : BIG = 1000000000000 := rfl
  rw [Zbv, h k (by simp) (by omega), Zn, w64 (by omega) (by omega)]
  have := ZsR t xs (n + k.nod) (x + 1) (fun j hj => h j (by simp [hj])) (by omega)
  rw [show ((n : Nat) : Int) + ((k.nod : Nat) : Int) = ((n + k.nod : Nat) : Int) from by omega, this, Nat.add_assoc]
theorem ZA4 (t : Zk) : t.nod ≤ BIG → ZbP t = some ((t.nod : Nat) : Int) := by
 refine Zk.ind (M := fun t => t.nod ≤ BIG → ZbP t = some ((t.nod : Nat) : Int)) (fun v ih hb => ?_) t
 rw [ZlM] at hb ⊢
 rw [ZbP]
 exact ZsR v v.fArgs 1 0 ih hb
theorem Zs7 (t : Zk) : ∀ (xs : List Zk) (n x : Nat), (∀ k ∈ xs, k.nod ≤ BIG → Zav k = some ((k.nod : Nat) : Int)) → n + Zk.nods xs ≤ BIG → Zas ((n : Nat) : Int) x t xs = some ((n + Zk.nods xs : Nat) : Int)
 | [], n, x, _, _ => by rw [Zas, Zk.nods]; rfl
 | k :: xs, n, x, h, hb => by
  rw [Zg2] at hb ⊢
  have hB : BIG = 1000000000000 := rfl
  rw [Zas, h k (by simp) (by omega), Zn, w64 (by omega) (by omega)]
  have := Zs7 t xs (n + k.nod) (x + 1) (fun j hj => h j (by simp [hj])) (by omega)
  rw [show ((n : Nat) : Int) + ((k.nod : Nat) : Int) = ((n + k.nod : Nat) : Int) from by omega, this, Nat.add_assoc]
theorem ZBo (t : Zk) : t.nod ≤ BIG → Zav t = some ((t.nod : Nat) : Int) := by
 refine Zk.ind (M := fun t => t.nod ≤ BIG → Zav t = some ((t.nod : Nat) : Int)) (fun v ih hb => ?_) t
 rw [ZlM] at hb ⊢
 rw [Zav]
 exact Zs7 v v.fArgs 1 0 ih hb

mutual
def Za.dep : Za → Nat | .mk _ _ _ ks => Za.deps ks + 1
def Za.deps : List Za → Nat
 | [] => 0
 | k :: ks => max (Za.dep k) (Za.deps ks)
end
mutual
def Zk.dep : Zk → Nat | .mk ks => Zk.deps ks + 1
def Zk.deps : List Zk → Nat
 | [] => 0
 | k :: ks => max (Zk.dep k) (Zk.deps ks)
end
theorem ZvF (t : Za) : t.dep = Za.deps t.fKids + 1 := by cases t; rw [Za.dep]; rfl
theorem Ztf (t : Zk) : t.dep = Zk.deps t.fArgs + 1 := by cases t; rw [Zk.dep]; rfl
theorem ZkJ (k : Za) (ks : List Za) : Za.deps (k :: ks) = max k.dep (Za.deps ks) := by rw [Za.deps]
theorem Zon (k : Zk) (ks : List Zk) : Zk.deps (k :: ks) = max k.dep (Zk.deps ks) := by rw [Zk.deps]
theorem Zxz (t : Za) : t.dep ≤ t.nod := by
 refine Za.ind (M := fun t => t.dep ≤ t.nod) (fun v ih => ?_) t
 have key : ∀ l : List Za, (∀ k ∈ l, k.dep ≤ k.nod) → Za.deps l ≤ Za.nods l := fun l => by
  induction l with
  | nil => intro _; rw [Za.deps, Za.nods]; exact Nat.le_refl _
  | cons k ks ihl => intro h; rw [ZkJ, Zhg]; have h1 := h k (by simp); have h2 := ihl fun j hj => h j (by simp [hj]); omega
 have := key v.fKids ih
 rw [ZvF, ZpK]; omega
theorem Zuk (t : Zk) : t.dep ≤ t.nod := by
 refine Zk.ind (M := fun t => t.dep ≤ t.nod) (fun v ih => ?_) t
 have key : ∀ l : List Zk, (∀ k ∈ l, k.dep ≤ k.nod) → Zk.deps l ≤ Zk.nods l := fun l => by
  induction l with
  | nil => intro _; rw [Zk.deps, Zk.nods]; exact Nat.le_refl _
  | cons k ks ihl => intro h; rw [Zon, Zg2]; have h1 := h k (by simp); have h2 := ihl fun j hj => h j (by simp [hj]); omega
 have := key v.fArgs ih
 rw [Ztf, ZlM]; omega
theorem ZgY (a b : Nat) : (if ((a : Nat) : Int) > ((b : Nat) : Int) then ((a : Nat) : Int) else ((b : Nat) : Int)) = ((max b a : Nat) : Int) := by
 split <;> omega
theorem Zsm (t : Za) : ∀ (xs : List Za) (n x : Nat), (∀ k ∈ xs, k.nod ≤ BIG → Zcg k = some ((k.dep : Nat) : Int)) → Za.nods xs ≤ BIG → n ≤ BIG → Zcu ((n : Nat) : Int) t x xs = some ((max n (Za.deps xs) + 1 : Nat) : Int)
 | [], n, x, _, _, hn => by
  have hB : BIG = 1000000000000 := rfl
  rw [Zcu, Za.deps, w64 (by omega) (by omega)]
  rw [Nat.max_eq_left (Nat.zero_le _)]; rfl
 | k :: xs, n, x, h, hb, hn => by
  rw [Zhg] at hb
  rw [ZkJ]
  have hd := Zxz k
  have hB : BIG = 1000000000000 := rfl
  rw [Zcu, h k (by simp) (by omega), Zn, ZgY]
  rw [Zsm t xs (max n k.dep) (x + 1) (fun j hj => h j (by simp [hj])) (by omega) (by omega), Nat.max_assoc]
theorem ZwL (t : Za) : t.nod ≤ BIG → Zcg t = some ((t.dep : Nat) : Int) := by
 refine Za.ind (M := fun t => t.nod ≤ BIG → Zcg t = some ((t.dep : Nat) : Int)) (fun v ih hb => ?_) t
 rw [ZpK] at hb
 rw [ZvF, Zcg]
 have := Zsm v v.fKids 0 0 ih (by omega) (Nat.zero_le _)
 rw [Nat.max_eq_right (Nat.zero_le _)] at this
 exact this
theorem ZsI (t : Za) : ∀ (xs : List Za) (n x : Nat), (∀ k ∈ xs, k.nod ≤ BIG → ZaH k = some ((k.dep : Nat) : Int)) → Za.nods xs ≤ BIG → n ≤ BIG → ZaU ((n : Nat) : Int) x t xs = some ((max n (Za.deps xs) + 1 : Nat) : Int)
 | [], n, x, _, _, hn => by
  have hB : BIG = 1000000000000 := rfl
  rw [ZaU, Za.deps, w64 (by omega) (by omega)]
  rw [Nat.max_eq_left (Nat.zero_le _)]; rfl
 | k :: xs, n, x, h, hb, hn => by
  rw [Zhg] at hb
  rw [ZkJ]
  have hd := Zxz k
  have hB : BIG = 1000000000000 := rfl
  rw [ZaU, h k (by simp) (by omega), Zn, ZgY]
  rw [ZsI t xs (max n k.dep) (x + 1) (fun j hj => h j (by simp [hj])) (by omega) (by omega), Nat.max_assoc]
theorem Ztx (t : Za) : t.nod ≤ BIG → ZaH t = some ((t.dep : Nat) : Int) := by
 refine Za.ind (M := fun t => t.nod ≤ BIG → ZaH t = some ((t.dep : Nat) : Int)) (fun v ih hb => ?_) t
 rw [ZpK] at hb
 rw [ZvF, ZaH]
 have := ZsI v v.fKids 0 0 ih (by omega) (Nat.zero_le _)
 rw [Nat.max_eq_right (Nat.zero_le _)] at this
 exact this
theorem ZrK (t : Zk) : ∀ (xs : List Zk) (n x : Nat), (∀ k ∈ xs, k.nod ≤ BIG → Zbt k = some ((k.dep : Nat) : Int)) → Zk.nods xs ≤ BIG → n ≤ BIG → Za5 ((n : Nat) : Int) t x xs = some ((max n (Zk.deps xs) + 1 : Nat) : Int)
 | [], n, x, _, _, hn => by
  have hB : BIG = 1000000000000 := rfl
  rw [Za5, Zk.deps, w64 (by omega) (by omega)]
  rw [Nat.max_eq_left (Nat.zero_le _)]; rfl
 | k :: xs, n, x, h, hb, hn => by
  rw [Zg2] at hb
  rw [Zon]
  have hd := Zuk k
  have hB : BIG = 1000000000000 := rfl
  rw [Za5, h k (by simp) (by omega), Zn, ZgY]
  rw [ZrK t xs (max n k.dep) (x + 1) (fun j hj => h j (by simp [hj])) (by omega) (by omega), Nat.max_assoc]
theorem ZAU (t : Zk) : t.nod ≤ BIG → Zbt t = some ((t.dep : Nat) : Int) := by
 refine Zk.ind (M := fun t => t.nod ≤ BIG → Zbt t = some ((t.dep : Nat) : Int)) (fun v ih hb => ?_) t
 rw [ZlM] at hb
 rw [Ztf, Zbt]
 have := ZrK v v.fArgs 0 0 ih (by omega) (Nat.zero_le _)
 rw [Nat.max_eq_right (Nat.zero_le _)] at this
 exact this
theorem Zq8 (t : Zk) : ∀ (xs : List Zk) (n x : Nat), (∀ k ∈ xs, k.nod ≤ BIG → Zan k = some ((k.dep : Nat) : Int)) → Zk.nods xs ≤ BIG → n ≤ BIG → Zaj ((n : Nat) : Int) x t xs = some ((max n (Zk.deps xs) + 1 : Nat) : Int)
 | [], n, x, _, _, hn => by
  have hB : BIG = 1000000000000 := rfl
  rw [Zaj, Zk.deps, w64 (by omega) (by omega)]
  rw [Nat.max_eq_left (Nat.zero_le _)]; rfl
 | k :: xs, n, x, h, hb, hn => by
  rw [Zg2] at hb
  rw [Zon]
  have hd := Zuk k
  have hB : BIG = 1000000000000 := rfl
  rw [Zaj, h k (by simp) (by omega), Zn, ZgY]
  rw [Zq8 t xs (max n k.dep) (x + 1) (fun j hj => h j (by simp [hj])) (by omega) (by omega), Nat.max_assoc]
theorem ZAy (t : Zk) : t.nod ≤ BIG → Zan t = some ((t.dep : Nat) : Int) := by
 refine Zk.ind (M := fun t => t.nod ≤ BIG → Zan t = some ((t.dep : Nat) : Int)) (fun v ih hb => ?_) t
 rw [ZlM] at hb
 rw [Ztf, Zan]
 have := Zq8 v v.fArgs 0 0 ih (by omega) (Nat.zero_le _)
 rw [Nat.max_eq_right (Nat.zero_le _)] at this
 exact this

mutual
def Za.vol : Za → Nat | .mk _ s b ks => 1 + s.size + b.nod + Za.vols ks
def Za.vols : List Za → Nat
 | [] => 0
 | k :: ks => Za.vol k + Za.vols ks
end
mutual
def Za.gks : Za → Nat | .mk _ _ b ks => max b.nod (Za.gkss ks)
def Za.gkss : List Za → Nat
 | [] => 0
 | k :: ks => max (Za.gks k) (Za.gkss ks)
end
mutual
def Za.gkd : Za → Nat | .mk _ _ b ks => max b.dep (Za.gkds ks)
def Za.gkds : List Za → Nat
 | [] => 0
 | k :: ks => max (Za.gkd k) (Za.gkds ks)
end
mutual
def Za.nmx : Za → Nat | .mk _ s _ ks => max s.size (Za.nmxs ks)
def Za.nmxs : List Za → Nat
 | [] => 0
 | k :: ks => max (Za.nmx k) (Za.nmxs ks)
end
theorem ZtG (t : Za) : t.nmx = max t.fName.size (Za.nmxs t.fKids) := by cases t; rw [Za.nmx]; rfl
theorem Zjl (k : Za) (ks : List Za) : Za.nmxs (k :: ks) = max k.nmx (Za.nmxs ks) := by rw [Za.nmxs]
theorem Ztw {k : Za} : ∀ {l : List Za}, k ∈ l → k.nmx ≤ Za.nmxs l
 | j :: l, h => by
  rw [Zjl]
  rcases List.mem_cons.1 h with rfl | h
  ·omega
  ·have := Ztw h; omega
theorem Zn7 (t : Za) : t.vol = 1 + t.fName.size + t.fBound.nod + Za.vols t.fKids := by cases t; rw [Za.vol]; rfl
theorem ZA1 (t : Za) : t.gks = max t.fBound.nod (Za.gkss t.fKids) := by cases t; rw [Za.gks]; rfl
theorem ZAS (t : Za) : t.gkd = max t.fBound.dep (Za.gkds t.fKids) := by cases t; rw [Za.gkd]; rfl
theorem Zjh (k : Za) (ks : List Za) : Za.vols (k :: ks) = k.vol + Za.vols ks := by rw [Za.vols]
theorem Znr (k : Za) (ks : List Za) : Za.gkss (k :: ks) = max k.gks (Za.gkss ks) := by rw [Za.gkss]
theorem Zny (k : Za) (ks : List Za) : Za.gkds (k :: ks) = max k.gkd (Za.gkds ks) := by rw [Za.gkds]
theorem Zqq {k : Za} : ∀ {l : List Za}, k ∈ l → k.vol ≤ Za.vols l
 | j :: l, h => by
  rw [Zjh]
  rcases List.mem_cons.1 h with rfl | h
  ·omega
  ·have := Zqq h; omega
theorem Zot (t : Za) : t.nod ≤ t.vol := by
 refine Za.ind (M := fun t => t.nod ≤ t.vol) (fun v ih => ?_) t
 have key : ∀ l : List Za, (∀ k ∈ l, k.nod ≤ k.vol) → Za.nods l ≤ Za.vols l := fun l => by
  induction l with
  | nil => intro _; rw [Za.nods, Za.vols]; exact Nat.le_refl _
  | cons k ks ihl => intro h; rw [Zhg, Zjh]; have h1 := h k (by simp); have h2 := ihl fun j hj => h j (by simp [hj]); omega
 have := key v.fKids ih
 rw [ZpK, Zn7]; omega
theorem ZtY (t : Za) : t.nmx ≤ t.vol := by
 refine Za.ind (M := fun t => t.nmx ≤ t.vol) (fun v ih => ?_) t
 have key : ∀ l : List Za, (∀ k ∈ l, k.nmx ≤ k.vol) → Za.nmxs l ≤ Za.vols l := fun l => by
  induction l with
  | nil => intro _; rw [Za.nmxs, Za.vols]; exact Nat.le_refl _
  | cons k ks ihl => intro h; rw [Zjl, Zjh]; have h1 := h k (by simp); have h2 := ihl fun j hj => h j (by simp [hj]); omega
 have := key v.fKids ih
 rw [ZtG, Zn7]; omega
theorem ZwN (t : Za) : ∀ (xs : List Za) (n x : Nat), (∀ k ∈ xs, ZH k = some ((k.gks : Nat) : Int)) → ZL ((n : Nat) : Int) t x xs = some ((max n (Za.gkss xs) : Nat) : Int)
 | [], n, x, _ => by rw [ZL, Za.gkss, Nat.max_eq_left (Nat.zero_le _)]
 | k :: xs, n, x, h => by
  rw [ZL, h k (by simp), Zn, ZgY, ZwN t xs _ _ (fun j hj => h j (by simp [hj])), Znr, Nat.max_assoc]
theorem ZGF (t : Za) : t.vol ≤ BIG → ZH t = some ((t.gks : Nat) : Int) := by
 refine Za.ind (M := fun t => t.vol ≤ BIG → ZH t = some ((t.gks : Nat) : Int)) (fun v ih hb => ?_) t
 rw [Zn7] at hb
 rw [ZH, ZA4 _ (by omega), Zn, ZwN v v.fKids _ 0 (fun k hk => ih k hk (by have := Zqq hk; omega)), ZA1]
theorem Zxv (t : Za) : ∀ (xs : List Za) (n x : Nat), (∀ k ∈ xs, ZE k = some ((k.gkd : Nat) : Int)) → ZI ((n : Nat) : Int) t x xs = some ((max n (Za.gkds xs) : Nat) : Int)
 | [], n, x, _ => by rw [ZI, Za.gkds, Nat.max_eq_left (Nat.zero_le _)]
 | k :: xs, n, x, h => by
  rw [ZI, h k (by simp), Zn, ZgY, Zxv t xs _ _ (fun j hj => h j (by simp [hj])), Zny, Nat.max_assoc]
theorem ZGi (t : Za) : t.vol ≤ BIG → ZE t = some ((t.gkd : Nat) : Int) := by
 refine Za.ind (M := fun t => t.vol ≤ BIG → ZE t = some ((t.gkd : Nat) : Int)) (fun v ih hb => ?_) t
 rw [Zn7] at hb
 rw [ZE, ZAU _ (by omega), Zn, Zxv v v.fKids _ 0 (fun k hk => ih k hk (by have := Zqq hk; omega)), ZAS]
theorem ZsZ (t : Za) : ∀ (xs : List Za) (a b x : Nat), (∀ k ∈ xs, Za1 k = some (((k.gks : Nat) : Int), ((k.gkd : Nat) : Int))) → ZaV ((a : Nat) : Int) ((b : Nat) : Int) x t xs = some (((max a (Za.gkss xs) : Nat) : Int), ((max b (Za.gkds xs) : Nat) : Int))
 | [], a, b, x, _ => by rw [ZaV, Za.gkss, Za.gkds, Nat.max_eq_left (Nat.zero_le _), Nat.max_eq_left (Nat.zero_le _)]
 | k :: xs, a, b, x, h => by
  rw [ZaV, h k (by simp), Zn, ZgY, ZgY, ZsZ t xs _ _ _ (fun j hj => h j (by simp [hj])), Znr, Zny, Nat.max_assoc, Nat.max_assoc]
theorem ZBg (t : Za) : t.vol ≤ BIG → Za1 t = some (((t.gks : Nat) : Int), ((t.gkd : Nat) : Int)) := by
 refine Za.ind (M := fun t => t.vol ≤ BIG → Za1 t = some (((t.gks : Nat) : Int), ((t.gkd : Nat) : Int))) (fun v ih hb => ?_) t
 rw [Zn7] at hb
 rw [Za1, ZBo _ (by omega), Zn, ZAy _ (by omega), Zn, ZsZ v v.fKids _ _ 0 (fun k hk => ih k hk (by have := Zqq hk; omega)), ZA1, ZAS]

def ZlC (t : Za) : Bool :=
 if t.fOp = 1 then Zmb t.fName && decide (t.fBound.fArgs.length = 0) && decide (t.fKids.length = 0)
 else if t.fOp = 2 then ZxO t.fName && decide (t.fBound.fArgs.length = 0) && decide (t.fKids.length = 0)
 else if t.fOp = 3 then decide (t.fName.size = 0) && decide (t.fBound.fArgs.length = 0) && decide (t.fKids.length = 2)
 else if t.fOp = 4 then Zmb t.fName && decide (t.fKids.length = 1) else false
mutual
def Za.fms : Za → Bool | .mk o s b ks => Za.fmss ks && ZlC (.mk o s b ks)
def Za.fmss : List Za → Bool
 | [] => true
 | k :: ks => Za.fms k && Za.fmss ks
end
theorem Zvs (t : Za) : t.fms = (Za.fmss t.fKids && ZlC t) := by cases t; rw [Za.fms]; rfl
theorem Zjn (k : Za) (ks : List Za) : Za.fmss (k :: ks) = (k.fms && Za.fmss ks) := by rw [Za.fmss]
theorem ZmK (a b : Nat) : (((a : Nat) : Int) == ((b : Nat) : Int)) = decide (a = b) := by rw [ZdU, Bool.eq_iff_iff, beq_iff_eq, decide_eq_true_iff]
theorem ZDE (a b : Int) : ((a == b) = true) = (a = b) := by rw [beq_iff_eq]
theorem Zvg (t : Za) (ht : t.fName.size ≤ 1000000000) : ∀ (xs : List Za) (x : Nat), (∀ k ∈ xs, ZaQ k = some k.fms) → ZaL x t xs = some (Za.fmss xs && ZlC t)
 | [], x, _ => by
  have e0 := ZmK t.fBound.fArgs.length 0
  have e1 := ZmK t.fKids.length 0
  have e2 := ZmK t.fKids.length 2
  have e3 := ZmK t.fKids.length 1
  simp only [Int.natCast_zero, Int.cast_ofNat_Int] at e0 e1 e2 e3
  rw [ZaL, Za.fmss, Bool.true_and]
  unfold ZlC
  simp only [ZDE]
  rw [ZB2 _ ht, ZFL _ ht, Znw]
  split
  ·rw [Zn, e0, e1]
  ·split
   ·rw [Zn, e0, e1]
   ·split
    ·rw [e0, e2]
    ·split
     ·rw [Zn, e3]
     ·rfl
 | k :: xs, x, h => by
  rw [ZaL, h k (by simp), Zn, Zjn]
  cases k.fms with
  | false => rfl
  | true => rw [Bool.not_true, ifF, Zvg t ht xs _ (fun j hj => h j (by simp [hj])), Bool.true_and]
theorem ZD2 (t : Za) : t.nmx ≤ 1000000000 → ZaQ t = some t.fms := by
 refine Za.ind (M := fun t => t.nmx ≤ 1000000000 → ZaQ t = some t.fms) (fun v ih hb => ?_) t
 rw [ZtG] at hb
 rw [ZaQ, Zvg v (by omega) v.fKids 0 (fun k hk => ih k hk (by have := Ztw hk; omega)), Zvs]

theorem ZwP (s : List Za) : ∀ (xs : List Za) (x : Nat), (∀ k ∈ xs, Zb2 k = some k.fms) → ∃ r, Zz s x xs = some r ∧ decide (r ≥ 0) = !Za.fmss xs
 | [], x, _ => ⟨-1, by rw [Zz], by rw [Za.fmss]; rfl⟩
 | k :: xs, x, h => by
  obtain ⟨r, h1, h2⟩ := ZwP s xs (x + 1) (fun j hj => h j (by simp [hj]))
  have hk : Zdi k = some (!k.fms) := by rw [Zdi, h k (by simp), Zn]
  rw [Zz, hk, Zn, Zjn]
  cases k.fms with
  | false => exact ⟨_, by rw [Bool.not_false, ifT], decide_eq_true (by omega)⟩
  | true => exact ⟨r, by rw [Bool.not_true, ifF, h1], by rw [h2, Bool.true_and]⟩
theorem ZDf (s : List Za) (h : ∀ k ∈ s, Zb2 k = some k.fms) : ZF s = some (!Za.fmss s) := by
 obtain ⟨r, h1, h2⟩ := ZwP s s 0 h
 rw [ZF, ZX, h1, Zn, h2]
theorem ZA8 (op : Int) : ∃ b, ZeP (ZhW (ZhW ([] : List (Int × Int)) 3 2) 4 1) 0 op = some ((if op = 3 then 2 else if op = 4 then 1 else 0), b) := by
 by_cases h3 : op = 3
 ·subst h3; exact ⟨_, rfl⟩
 ·by_cases h4 : op = 4
  ·subst h4; exact ⟨_, rfl⟩
  ·have e3 : (op == 3) = false := by rw [beq_eq_false_iff_ne]; exact h3
   have e4 : (op == 4) = false := by rw [beq_eq_false_iff_ne]; exact h4
   rw [if_neg h3, if_neg h4]
   refine ⟨false, ?_⟩
   have hm : ZhW (ZhW ([] : List (Int × Int)) 3 2) 4 1 = [(3, 2), (4, 1)] := rfl
   rw [hm]
   unfold ZeP
   simp only [ZfI, e3, e4, Bool.false_eq_true, if_false]

theorem ZDQ (t : Za) : t.nmx ≤ 1000000000 → Zb2 t = some t.fms := by
 refine Za.ind (M := fun t => t.nmx ≤ 1000000000 → Zb2 t = some t.fms) (fun v ih hb => ?_) t
 rw [ZtG] at hb
 have hk : ∀ k ∈ v.fKids, Zb2 k = some k.fms := fun k hk => ih k hk (by have := Ztw hk; omega)
 have hs : v.fName.size ≤ 1000000000 := by omega
 obtain ⟨b, hlook⟩ := ZA8 v.fOp
 have hc := ZDf v.fKids hk
 have e0 : decide (((v.fBound.fArgs.length : Nat) : Int) > 0) = !decide (v.fBound.fArgs.length = 0) := by
  by_cases h : v.fBound.fArgs.length = 0
  ·rw [decide_eq_true h]; exact decide_eq_false (by omega)
  ·rw [decide_eq_false h]; exact decide_eq_true (by omega)
 have ek : ∀ n : Nat, (((v.fKids.length : Nat) : Int) != ((n : Nat) : Int)) = !decide (v.fKids.length = n) := fun n => by rw [bne, ZmK]
 have ek0 := ek 0
 have ek1 := ek 1
 have ek2 := ek 2
 simp only [Int.natCast_zero, Int.cast_ofNat_Int] at ek0 ek1 ek2
 rw [Zb2, hlook, Zn, hc, Znw, e0, Zvs]
 unfold ZdJ ZlC
 rw [ZAA _ hs, ZEI _ hs, ZFQ _ hs]
 by_cases h1 : v.fOp = 1
 ·rw [h1]; simp only [Zn]
  simp only [ek0, show ((1 : Int) = 3) = False from by decide, show ((1 : Int) = 4) = False from by decide, if_false, if_true]
  cases decide (v.fBound.fArgs.length = 0) <;> cases decide (v.fKids.length = 0) <;> cases Za.fmss v.fKids <;> cases Zmb v.fName <;> rfl
 ·by_cases h2 : v.fOp = 2
  ·rw [h2]; simp only [Zn]
   simp only [ek0, show ((2 : Int) = 3) = False from by decide, show ((2 : Int) = 4) = False from by decide, show ((2 : Int) = 1) = False from by decide, if_false, if_true]
   unfold ZxO
   cases decide (v.fBound.fArgs.length = 0) <;> cases decide (v.fKids.length = 0) <;> cases Za.fmss v.fKids <;> cases (ZuJ v.fName.data.toList || Zr6 v.fName.data.toList) <;> cases ZvA v.fName <;> rfl
  ·by_cases h3 : v.fOp = 3
   ·rw [h3]; simp only [Zn]
    simp only [ek2, show ((3 : Int) = 4) = False from by decide, show ((3 : Int) = 1) = False from by decide, show ((3 : Int) = 2) = False from by decide, if_false, if_true]
    cases decide (v.fBound.fArgs.length = 0) <;> cases decide (v.fKids.length = 2) <;> cases Za.fmss v.fKids <;> cases decide (v.fName.size = 0) <;> rfl
   ·by_cases h4 : v.fOp = 4
    ·rw [h4]; simp only [Zn]
     simp only [ek1, show ((4 : Int) = 3) = False from by decide, show ((4 : Int) = 1) = False from by decide, show ((4 : Int) = 2) = False from by decide, if_false, if_true]
     cases decide (v.fBound.fArgs.length = 0) <;> cases decide (v.fKids.length = 1) <;> cases Za.fmss v.fKids <;> cases Zmb v.fName <;> rfl
    ·have g1 : (v.fOp == 1) = false := by rw [beq_eq_false_iff_ne]; exact h1
     have g2 : (v.fOp == 2) = false := by rw [beq_eq_false_iff_ne]; exact h2
     have g3 : (v.fOp == 3) = false := by rw [beq_eq_false_iff_ne]; exact h3
     have g4 : (v.fOp == 4) = false := by rw [beq_eq_false_iff_ne]; exact h4
     have g5 : (v.fOp != 4) = true := by rw [bne, g4]; rfl
     simp only [Zn, g1, g2, g3, g4, g5, if_neg h1, if_neg h2, if_neg h3, if_neg h4, ek0]
     cases decide (v.fBound.fArgs.length = 0) <;> cases decide (v.fKids.length = 0) <;> cases Za.fmss v.fKids <;> rfl

def Zqc (t : Za) : Int :=
 if t.fms = true then (if 20000 < t.nod ∨ 20000 < t.gks then 3 else if 100 < t.dep ∨ 100 < t.gkd then 4 else 0) else 1
theorem ZzD (a b : Prop) [Decidable a] [Decidable b] : (decide a || decide b) = decide (a ∨ b) := by
 rw [Bool.eq_iff_iff, Bool.or_eq_true, decide_eq_true_iff, decide_eq_true_iff, decide_eq_true_iff]
theorem Zmt (a n : Nat) : decide (((a : Nat) : Int) > ((n : Nat) : Int)) = decide (n < a) := decide_eq_decide.2 (by omega)
theorem ZuS (t : Za) (hm : t.nmx ≤ 1000000000) (h : t.vol ≤ 1000000000000) : Zci t = some (Zqc t) := by
 have hB : BIG = 1000000000000 := rfl
 have hn := Zot t
 have g1 := Zmt t.nod 20000
 have g2 := Zmt t.gks 20000
 have g3 := Zmt t.dep 100
 have g4 := Zmt t.gkd 100
 simp only [Int.cast_ofNat_Int] at g1 g2 g3 g4
 unfold Zci Zqc
 rw [ZDQ t hm, Zn]
 cases t.fms with
 | false => rfl
 | true =>
  rw [Bool.not_true, ifF, ifT, Zz1 t (by omega), Zn, ZGF t (by omega), Zn, g1, g2, ZwL t (by omega), Zn, ZGi t (by omega), Zn, g3, g4]
  by_cases a1 : 20000 < t.nod
  ·rw [decide_eq_true a1, orT, ifT, if_pos (.inl a1)]
  ·rw [decide_eq_false a1, orF, Zn]
   by_cases a2 : 20000 < t.gks
   ·rw [decide_eq_true a2, ifT, if_pos (.inr a2)]
   ·rw [decide_eq_false a2, ifF, if_neg (show ¬ (20000 < t.nod ∨ 20000 < t.gks) from fun h => h.elim a1 a2)]
    by_cases a3 : 100 < t.dep
    ·rw [decide_eq_true a3, orT, ifT, if_pos (.inl a3)]
    ·rw [decide_eq_false a3, orF, Zn]
     by_cases a4 : 100 < t.gkd
     ·rw [decide_eq_true a4, ifT, if_pos (.inr a4)]
     ·rw [decide_eq_false a4, ifF, if_neg (show ¬ (100 < t.dep ∨ 100 < t.gkd) from fun h => h.elim a3 a4)]
theorem Zvf (t : Za) (hm : t.nmx ≤ 1000000000) (h : t.vol ≤ 1000000000000) : ZaG t = some (Zqc t) := by
 have hB : BIG = 1000000000000 := rfl
 have hn := Zot t
 have g1 := Zmt t.nod 20000
 have g2 := Zmt t.gks 20000
 have g3 := Zmt t.dep 100
 have g4 := Zmt t.gkd 100
 simp only [Int.cast_ofNat_Int] at g1 g2 g3 g4
 unfold ZaG Zqc
 rw [ZD2 t hm, Zn]
 cases t.fms with
 | false => rfl
 | true =>
  rw [Bool.not_true, ifF, ifT, ZBg t (by omega), Zn, Zv2 t (by omega), Zn, g1, g2, Ztx t (by omega), Zn, g3, g4, ZzD, ZzD]
  by_cases a1 : 20000 < t.nod ∨ 20000 < t.gks
  ·rw [decide_eq_true a1, ifT, if_pos a1]
  ·rw [decide_eq_false a1, ifF, if_neg a1]
   by_cases a2 : 100 < t.dep ∨ 100 < t.gkd
   ·rw [decide_eq_true a2, ifT, if_pos a2]
   ·rw [decide_eq_false a2, ifF, if_neg a2]
theorem ZA9 (t : Za) (h : t.vol ≤ 1000000000) : Zci t = some (Zqc t) := ZuS t (Nat.le_trans (ZtY t) h) (by omega)
theorem ZBG (t : Za) (h : t.vol ≤ 1000000000) : ZaG t = some (Zqc t) := Zvf t (Nat.le_trans (ZtY t) h) (by omega)

mutual
def Za.qnt : Za → Bool | .mk o _ _ ks => (o == 4) || Za.qnts ks
def Za.qnts : List Za → Bool
 | [] => false
 | k :: ks => Za.qnt k || Za.qnts ks
end
theorem Zwf (t : Za) : t.qnt = ((t.fOp == 4) || Za.qnts t.fKids) := by cases t; rw [Za.qnt]; rfl
theorem Zji (k : Za) (ks : List Za) : Za.qnts (k :: ks) = (k.qnt || Za.qnts ks) := by rw [Za.qnts]
theorem ZwX (s : List Za) : ∀ (xs : List Za) (x : Nat), (∀ k ∈ xs, Za2 k = some k.qnt) → ∃ r, Zw s x xs = some r ∧ decide (r ≥ 0) = Za.qnts xs
 | [], x, _ => ⟨-1, by rw [Zw], by rw [Za.qnts]; rfl⟩
 | k :: xs, x, h => by
  obtain ⟨r, h1, h2⟩ := ZwX s xs (x + 1) (fun j hj => h j (by simp [hj]))
  rw [Zw, h k (by simp), Zn, Zji]
  cases k.qnt with
  | true => exact ⟨_, by rw [ifT], decide_eq_true (by omega)⟩
  | false => exact ⟨r, by rw [ifF, h1], by rw [h2, Bool.false_or]⟩
theorem ZF6 (t : Za) : Za2 t = some t.qnt := by
 refine Za.ind (M := fun t => Za2 t = some t.qnt) (fun v ih => ?_) t
 obtain ⟨r, h1, h2⟩ := ZwX v.fKids v.fKids 0 ih
 rw [Za2, Zwf]
 cases v.fOp == 4 with
 | true => rfl
 | false => rw [ZM, ZS, h1, Zn, h2, Bool.false_or]; rfl
theorem Zxl (t : Za) : ∀ (xs : List Za) (x : Nat), (∀ k ∈ xs, Zae k = some k.qnt) → Zad x t xs = some (Za.qnts xs || (t.fOp == 4))
 | [], x, _ => by rw [Zad, Za.qnts, Bool.false_or]
 | k :: xs, x, h => by
  rw [Zad, h k (by simp), Zn, Zji]
  cases k.qnt with
  | true => rfl
  | false => rw [ifF, Zxl t xs _ (fun j hj => h j (by simp [hj])), Bool.false_or]
theorem ZGx (t : Za) : Zae t = some t.qnt := by
 refine Za.ind (M := fun t => Zae t = some t.qnt) (fun v ih => ?_) t
 rw [Zae, Zxl v v.fKids 0 ih, Zwf, Bool.or_comm]
def Zoy (t : Za) : Bool := (Zqc t == 0) && !t.qnt
theorem ZBQ (t : Za) (h : t.vol ≤ 1000000000) : ZdV t = some (Zoy t) := by
 unfold ZdV Zoy
 rw [ZA9 t h, Zn, ZF6]
 cases Zqc t == 0 <;> rfl
theorem ZB1 (t : Za) (h : t.vol ≤ 1000000000) : Zce t = some (Zoy t) := by
 unfold Zce Zoy
 rw [ZBG t h, Zn, ZGx]
 cases Zqc t == 0 <;> rfl
inductive ST where
 | v (s : ByteArray)
 | k (s : ByteArray)
 | a (f x : ST)
def ST.ty : ST → Za
 | .v s => Za.mk 1 s (Zk.mk []) []
 | .k s => Za.mk 2 s (Zk.mk []) []
 | .a f x => Za.mk 3 (ByteArray.mk #[]) (Zk.mk []) [f.ty, x.ty]
def ST.nod : ST → Nat
 | .v _ => 1
 | .k _ => 1
 | .a f x => 1 + f.nod + x.nod
def ST.dep : ST → Nat
 | .v _ => 1
 | .k _ => 1
 | .a f x => max f.dep x.dep + 1
def ST.nms : ST → Bool
 | .v s => Zmb s && decide (s.size ≤ 1048576)
 | .k s => ZxO s && decide (s.size ≤ 1048576)
 | .a f x => f.nms && x.nms
theorem ZDx (k : Zk) (h : k.fArgs.length = 0) : k = Zk.mk [] := by
 cases k with | mk l => cases l with | nil => rfl | cons _ _ => cases h
theorem ZH7 (s : ByteArray) (h : s.size = 0) : s = ByteArray.mk #[] := by
 apply ZfB
 have : s.data.toList.length = 0 := by rw [sz]; exact h
 rw [List.length_eq_zero_iff.1 this]
theorem ZFO (t : Za) : t.nmx ≤ 1048576 → t.fms = true → t.qnt = false → ∃ s : ST, s.ty = t ∧ s.nms = true := by
 refine Za.ind (M := fun t => t.nmx ≤ 1048576 → t.fms = true → t.qnt = false → ∃ s : ST, s.ty = t ∧ s.nms = true) (fun v ih hb hf hq => ?_) t
 rw [ZtG] at hb
 rw [Zvs, Bool.and_eq_true] at hf
 rw [Zwf, Bool.or_eq_false_iff] at hq
 obtain ⟨h1, h2⟩ := hf
 obtain ⟨op, s, b, ks⟩ := v
 have hs : s.size ≤ 1048576 := by have : (Za.mk op s b ks).fName = s := rfl; rw [this] at hb; omega
 have hk : Za.nmxs ks ≤ 1048576 := by have : (Za.mk op s b ks).fKids = ks := rfl; rw [this] at hb; omega
 replace h1 : Za.fmss ks = true := h1
 replace hq : (op == 4) = false ∧ Za.qnts ks = false := hq
 unfold ZlC at h2
 have e1 : (Za.mk op s b ks).fOp = op := rfl
 have e2 : (Za.mk op s b ks).fName = s := rfl
 have e3 : (Za.mk op s b ks).fBound = b := rfl
 have e4 : (Za.mk op s b ks).fKids = ks := rfl
 rw [e1, e2, e3, e4] at h2
 by_cases o1 : op = 1
 ·rw [if_pos o1] at h2
  simp only [Bool.and_eq_true, decide_eq_true_eq] at h2
  obtain ⟨⟨h3, h4⟩, h5⟩ := h2
  refine ⟨.v s, ?_, by simp [ST.nms, h3, hs]⟩
  rw [ST.ty, ZDx b h4, List.length_eq_zero_iff.1 h5, o1]
 ·rw [if_neg o1] at h2
  by_cases o2 : op = 2
  ·rw [if_pos o2] at h2
   simp only [Bool.and_eq_true, decide_eq_true_eq] at h2
   obtain ⟨⟨h3, h4⟩, h5⟩ := h2
   refine ⟨.k s, ?_, by simp [ST.nms, h3, hs]⟩
   rw [ST.ty, ZDx b h4, List.length_eq_zero_iff.1 h5, o2]
  ·rw [if_neg o2] at h2
   by_cases o3 : op = 3
   ·rw [if_pos o3] at h2
    simp only [Bool.and_eq_true, decide_eq_true_eq] at h2
    obtain ⟨⟨h3, h4⟩, h5⟩ := h2
    match ks, h5, h1, hk, ih, hq.2 with
    | [f, x], _, h1, hk, ih, hq2 =>
     rw [Zjn, Zjn, Bool.and_eq_true, Bool.and_eq_true] at h1
     rw [Zjl, Zjl] at hk
     rw [Zji, Zji, Bool.or_eq_false_iff, Bool.or_eq_false_iff] at hq2
     obtain ⟨f', hf1, hf2⟩ := ih f (by simp [Za.fKids]) (by omega) h1.1 hq2.1
     obtain ⟨x', hx1, hx2⟩ := ih x (by simp [Za.fKids]) (by omega) h1.2.1 hq2.2.1
     refine ⟨.a f' x', ?_, by simp [ST.nms, hf2, hx2]⟩
     rw [ST.ty, hf1, hx1, ZDx b h4, ZH7 s h3, o3]
   ·rw [if_neg o3] at h2
    have o4 : ¬ op = 4 := fun h => by rw [h] at hq; simp at hq
    rw [if_neg o4] at h2
    cases h2
theorem Zwm : ∀ s : ST, s.nms = true → s.ty.fms = true
 | .v s, h => by
  simp only [ST.nms, Bool.and_eq_true] at h
  rw [ST.ty, Za.fms, Za.fmss, ZlC, if_pos (show (Za.mk 1 s (Zk.mk []) []).fOp = 1 from rfl)]
  show (true && (Zmb s && true && true)) = true
  rw [h.1]; rfl
 | .k s, h => by
  simp only [ST.nms, Bool.and_eq_true] at h
  rw [ST.ty, Za.fms, Za.fmss, ZlC, if_neg (show ¬ (Za.mk 2 s (Zk.mk []) []).fOp = 1 from fun h => absurd (show (2 : Int) = 1 from h) (by decide)), if_pos (show (Za.mk 2 s (Zk.mk []) []).fOp = 2 from rfl)]
  show (true && (ZxO s && true && true)) = true
  rw [h.1]; rfl
 | .a f x, h => by
  simp only [ST.nms, Bool.and_eq_true] at h
  rw [ST.ty, Za.fms, Zjn, Zjn, Zwm f h.1, Zwm x h.2, Za.fmss, ZlC]
  rfl
theorem Zkx : ∀ s : ST, s.ty.nod = s.nod
 | .v s => by rw [ST.ty, Za.nod, Za.nods, ST.nod]
 | .k s => by rw [ST.ty, Za.nod, Za.nods, ST.nod]
 | .a f x => by rw [ST.ty, Za.nod, Zhg, Zhg, Za.nods, ST.nod, Zkx f, Zkx x]; omega
theorem ZqY : ∀ s : ST, s.ty.dep = s.dep
 | .v s => by rw [ST.ty, Za.dep, Za.deps, ST.dep]
 | .k s => by rw [ST.ty, Za.dep, Za.deps, ST.dep]
 | .a f x => by rw [ST.ty, Za.dep, ZkJ, ZkJ, Za.deps, ST.dep, ZqY f, ZqY x]; omega
theorem Zwp : ∀ s : ST, s.ty.gks = 1
 | .v s => by rw [ST.ty, Za.gks, Za.gkss, Zk.nod, Zk.nods]; rfl
 | .k s => by rw [ST.ty, Za.gks, Za.gkss, Zk.nod, Zk.nods]; rfl
 | .a f x => by rw [ST.ty, Za.gks, Znr, Znr, Za.gkss, Zwp f, Zwp x, Zk.nod, Zk.nods]; rfl
theorem Zwl : ∀ s : ST, s.ty.gkd = 1
 | .v s => by rw [ST.ty, Za.gkd, Za.gkds, Zk.dep, Zk.deps]; rfl
 | .k s => by rw [ST.ty, Za.gkd, Za.gkds, Zk.dep, Zk.deps]; rfl
 | .a f x => by rw [ST.ty, Za.gkd, Zny, Zny, Za.gkds, Zwl f, Zwl x, Zk.dep, Zk.deps]; rfl
theorem Zwn : ∀ s : ST, s.ty.qnt = false
 | .v s => by rw [ST.ty, Za.qnt, Za.qnts]; rfl
 | .k s => by rw [ST.ty, Za.qnt, Za.qnts]; rfl
 | .a f x => by rw [ST.ty, Za.qnt, Zji, Zji, Za.qnts, Zwn f, Zwn x]; rfl
theorem ZtQ : ∀ s : ST, s.nms = true → s.ty.nmx ≤ 1048576
 | .v s, h => by
  simp only [ST.nms, Bool.and_eq_true, decide_eq_true_eq] at h
  rw [ST.ty, Za.nmx, Za.nmxs]; omega
 | .k s, h => by
  simp only [ST.nms, Bool.and_eq_true, decide_eq_true_eq] at h
  rw [ST.ty, Za.nmx, Za.nmxs]; omega
 | .a f x, h => by
  simp only [ST.nms, Bool.and_eq_true] at h
  have h1 := ZtQ f h.1
  have h2 := ZtQ x h.2
  have h3 : (ByteArray.mk #[]).size = 0 := rfl
  rw [ST.ty, Za.nmx, Zjl, Zjl, Za.nmxs]; omega
theorem Zr0 : ∀ s : ST, s.nms = true → s.ty.vol ≤ 1048578 * s.nod
 | .v s, h => by
  simp only [ST.nms, Bool.and_eq_true, decide_eq_true_eq] at h
  rw [ST.ty, Za.vol, Za.vols, Zk.nod, Zk.nods, ST.nod]; omega
 | .k s, h => by
  simp only [ST.nms, Bool.and_eq_true, decide_eq_true_eq] at h
  rw [ST.ty, Za.vol, Za.vols, Zk.nod, Zk.nods, ST.nod]; omega
 | .a f x, h => by
  simp only [ST.nms, Bool.and_eq_true] at h
  have h1 := Zr0 f h.1
  have h2 := Zr0 x h.2
  have h3 : (ByteArray.mk #[]).size = 0 := rfl
  rw [ST.ty, Za.vol, Zjh, Zjh, Za.vols, Zk.nod, Zk.nods, ST.nod, h3]; omega
def ST.big (s : ST) : Bool := decide (20000 < s.nod) || decide (100 < s.dep)
theorem Ztk (s : ST) (h : s.nms = true) : Zqc s.ty = if 20000 < s.nod then 3 else if 100 < s.dep then 4 else 0 := by
 unfold Zqc
 rw [if_pos (Zwm s h), Zkx, ZqY, Zwp, Zwl]
 by_cases h1 : 20000 < s.nod
 ·rw [if_pos (.inl h1), if_pos h1]
 ·rw [if_neg (show ¬ (20000 < s.nod ∨ 20000 < 1) by omega), if_neg h1]
  by_cases h2 : 100 < s.dep
  ·rw [if_pos (.inl h2), if_pos h2]
  ·rw [if_neg (show ¬ (100 < s.dep ∨ 100 < 1) by omega), if_neg h2]
theorem Zdg {s : ST} : s.big = false ↔ s.nod ≤ 20000 ∧ s.dep ≤ 100 := by
 unfold ST.big
 rw [Bool.or_eq_false_iff, decide_eq_false_iff_not, decide_eq_false_iff_not]; omega
def ST.good (s : ST) : Prop := s.nms = true ∧ s.big = false
theorem ZqW (s : ST) (h : s.good) : Zci s.ty = some 0 := by
 have hb := Zdg.1 h.2
 have h1 := ZtQ s h.1
 have h2 := Zr0 s h.1
 rw [ZuS s.ty (by omega) (by omega), Ztk s h.1, if_neg (by omega), if_neg (by omega)]
theorem Ztj (s : ST) (h : s.good) : ZaG s.ty = some 0 := by
 have hb := Zdg.1 h.2
 have h1 := ZtQ s h.1
 have h2 := Zr0 s h.1
 rw [Zvf s.ty (by omega) (by omega), Ztk s h.1, if_neg (by omega), if_neg (by omega)]
theorem ZyO {t : Za} (hv : t.vol ≤ 1048576) (h : Zoy t = true) : ∃ s : ST, s.ty = t ∧ s.good := by
 unfold Zoy at h
 simp only [Bool.and_eq_true, beq_iff_eq, Bool.not_eq_true'] at h
 have hf : t.fms = true := by
  cases hf : t.fms with
  | true => rfl
  | false => unfold Zqc at h; rw [hf] at h; simp at h
 obtain ⟨s, rfl, hn⟩ := ZFO t (Nat.le_trans (ZtY t) hv) hf h.2
 refine ⟨s, rfl, hn, ?_⟩
 rw [Ztk s hn] at h
 rw [Zdg]
 by_cases h1 : 20000 < s.nod
 ·rw [if_pos h1] at h; simp at h
 ·by_cases h2 : 100 < s.dep
  ·rw [if_neg h1, if_pos h2] at h; simp at h
  ·omega
theorem ZuU {s : ST} (h : s.good) : Zoy s.ty = true := by
 have hb := Zdg.1 h.2
 unfold Zoy
 rw [Ztk s h.1, if_neg (by omega), if_neg (by omega), Zwn]; rfl

theorem Zsd (a b : ByteArray) : (a == b) = decide (a = b) := by
 cases a with | mk x => cases b with | mk y =>
 have : ((⟨x⟩ : ByteArray) == ⟨y⟩) = (x == y) := rfl
 rw [this, Bool.eq_iff_iff, beq_iff_eq, decide_eq_true_iff]
 exact ⟨fun h => by rw [h], fun h => by injection h⟩
theorem ZkM (a b : ByteArray) : (a.toList == b.toList) = decide (a = b) := by
 rw [Bool.eq_iff_iff, beq_iff_eq, decide_eq_true_iff, ZaY, ZaY]
 exact ⟨fun h => ZfB h, fun h => by rw [h]⟩
abbrev SB := List (ByteArray × ST)
def lk (x : ByteArray) : SB → Option ST
 | [] => none
 | p :: L => if p.1 = x then some p.2 else lk x L
def fi (x : ByteArray) : SB → Option Nat
 | [] => none
 | p :: L => if p.1 = x then some 0 else (fi x L).map (· + 1)
def toB (p : ByteArray × ST) : Ze := Ze.mk p.1 p.2.ty
def atL : Nat → SB → List (ByteArray × Int)
 | _, [] => []
 | k, p :: L => (p.1, ((k : Nat) : Int)) :: atL (k + 1) L
theorem ZsD (x : ByteArray) : ∀ L : SB, (fi x L = none ∧ lk x L = none) ∨ ∃ i p, fi x L = some i ∧ L[i]? = some p ∧ p.1 = x ∧ lk x L = some p.2
 | [] => .inl ⟨rfl, rfl⟩
 | q :: L => by
  by_cases h : q.1 = x
  ·exact .inr ⟨0, q, by rw [fi, if_pos h], rfl, h, by rw [lk, if_pos h]⟩
  ·rcases ZsD x L with ⟨h1, h2⟩ | ⟨i, p, h1, h2, h3, h4⟩
   ·exact .inl ⟨by rw [fi, if_neg h, h1]; rfl, by rw [lk, if_neg h, h2]⟩
   ·exact .inr ⟨i + 1, p, by rw [fi, if_neg h, h1]; rfl, h2, h3, by rw [lk, if_neg h, h4]⟩
theorem ZuT (s : List Ze) (x : ByteArray) : ∀ (L : SB) (k : Nat), Za4 s x k (L.map toB) = some (match fi x L with | some i => ((k + i : Nat) : Int) | none => -1)
 | [], k => by rw [List.map_nil, Za4]; rfl
 | p :: L, k => by
  rw [List.map_cons, Za4, ZkM, fi]
  show (if decide (p.1 = x) = true then _ else _) = _
  by_cases h : p.1 = x
  ·rw [decide_eq_true h, ifT, if_pos h]; rfl
  ·rw [decide_eq_false h, ifF, if_neg h, ZuT s x L (k + 1)]
   cases fi x L with
   | none => rfl
   | some i => simp only [Option.map_some]; congr 2; omega
theorem ZAO (x : ByteArray) (L : SB) : Zb6 (L.map toB) x = some (match fi x L with | some i => ((i : Nat) : Int) | none => -1) := by
 rw [Zb6, ZuT]
 cases fi x L with
 | none => rfl
 | some i => simp only [Nat.zero_add]
theorem Zvd (x : ByteArray) : ∀ (L : SB) (k : Nat), ZfI x (atL k L) = (fi x L).map fun i => ((k + i : Nat) : Int)
 | [], k => rfl
 | p :: L, k => by
  rw [atL, ZfI, Zsd, fi]
  by_cases h : p.1 = x
  ·rw [decide_eq_true h.symm, ifT, if_pos h]; rfl
  ·rw [decide_eq_false (fun e => h e.symm), ifF, if_neg h, Zvd x L (k + 1)]
   cases fi x L with
   | none => rfl
   | some i => simp only [Option.map_some]; congr 2; omega
theorem ZwE (x : ByteArray) (u : ST) : ∀ (L : SB) (k n : Nat), fi x L = none → n = k + L.length → ZhW (atL k L) x ((n : Nat) : Int) = atL k (L ++ [(x, u)])
 | [], k, n, _, h => by subst h; rfl
 | p :: L, k, n, hf, h => by
  rw [fi] at hf
  by_cases hx : p.1 = x
  ·rw [if_pos hx] at hf; cases hf
  ·rw [if_neg hx] at hf
   have hf : fi x L = none := by cases hh : fi x L with | none => rfl | some i => rw [hh] at hf; cases hf
   rw [List.cons_append, atL, atL, ZhW, Zsd, decide_eq_false (fun e => hx e.symm), ifF, ZwE x u L (k + 1) n hf (by rw [h, List.length_cons]; omega)]
theorem ZyP : ∀ (L : SB) (g : ByteArray × ST → ST) (k : Nat), atL k (L.map fun p => (p.1, g p)) = atL k L
 | [], g, k => rfl
 | p :: L, g, k => by rw [List.map_cons, atL, atL, ZyP L g (k + 1)]
theorem ZzT (x : ByteArray) (g : ByteArray × ST → ST) : ∀ L : SB, fi x (L.map fun p => (p.1, g p)) = fi x L
 | [] => rfl
 | p :: L => by rw [List.map_cons, fi, fi, ZzT x g L]
theorem ZuD (L : SB) (x : ByteArray) : ZeP (atL 0 L) 0 x = some (match fi x L with | some i => (((i : Nat) : Int), true) | none => (0, false)) := by
 unfold ZeP
 rw [Zvd]
 cases fi x L with
 | none => rfl
 | some i => simp only [Option.map_some, Nat.zero_add]
theorem Zld {α : Type} (l : List α) (i : Nat) : ixI l ((i : Nat) : Int) = l[i]? := by
 unfold ixI; rw [if_pos (Int.natCast_nonneg i)]; rfl
def ST.isv : ST → Bool
 | .v _ => true
 | _ => false
def ST.res (L : SB) : ST → ST
 | .v s => (lk s L).getD (.v s)
 | t => t
theorem ZEU : ∀ t : ST, t.ty.fOp = match t with | .v _ => 1 | .k _ => 2 | .a _ _ => 3
 | .v _ => rfl
 | .k _ => rfl
 | .a _ _ => rfl
theorem ZB0 (L : SB) (t : ST) : Zbi (L.map toB) t.ty = some (t.res L).ty := by
 unfold Zbi ZbT
 cases t with
 | v s =>
  show (if true = true then _ else _) = _
  rw [ifT]
  show (Zb6 (L.map toB) s >>= _) = _
  rw [ZAO, Zn]
  rcases ZsD s L with ⟨h1, h2⟩ | ⟨i, p, h1, h2, h3, h4⟩
  ·rw [h1, ST.res, h2]; rfl
  ·rw [h1, ST.res, h4]
   show (if decide (((i : Nat) : Int) ≥ 0) = true then _ else _) = _
   rw [decide_eq_true (Int.natCast_nonneg i), ifT]
   show (ixI _ ((i : Nat) : Int) >>= _) = _
   rw [Zld, List.getElem?_map, h2]
   rfl
 | k s => rfl
 | a f x => rfl
theorem ZBS (L : SB) (t : ST) : ZaP ⟨L.map toB, atL 0 L⟩ t.ty = some (t.res L).ty := by
 unfold ZaP Zbr
 cases t with
 | v s =>
  show (if true = true then _ else _) = _
  rw [ifT]
  show (ZeP (atL 0 L) 0 s >>= _) = _
  rw [ZuD, Zn]
  rcases ZsD s L with ⟨h1, h2⟩ | ⟨i, p, h1, h2, h3, h4⟩
  ·rw [h1, ST.res, h2]; rfl
  ·rw [h1, ST.res, h4]
   show (ixI (L.map toB) ((i : Nat) : Int) >>= _) = _
   rw [Zld, List.getElem?_map, h2]
   rfl
 | k s => rfl
 | a f x => rfl
def ST.sub (L : SB) : ST → ST
 | .v s => (lk s L).getD (.v s)
 | .k s => .k s
 | .a f x => .a (f.sub L) (x.sub L)
def ST.occ (v : ByteArray) : ST → Bool
 | .v s => decide (s = v)
 | .k _ => false
 | .a f x => f.occ v || x.occ v
def ST.fr (l : List ByteArray) : ST → List ByteArray
 | .v s => if l.contains s = true then l else l ++ [s]
 | .k _ => l
 | .a f x => x.fr (f.fr l)
theorem Zso (l : List ByteArray) (x : ByteArray) : l.contains x = true ↔ x ∈ l := by
 induction l with
 | nil => simp
 | cons a l ih => rw [List.contains_cons, Bool.or_eq_true, ih, Zsd, decide_eq_true_iff, List.mem_cons]
theorem ZtN (t : ST) : ∀ l, (t.fr l).length ≤ l.length + t.nod := by
 induction t with
 | v s => intro l; rw [ST.fr, ST.nod]; split <;> simp
 | k s => intro l; rw [ST.fr]; omega
 | a f x ihf ihx => intro l; rw [ST.fr, ST.nod]; have h1 := ihf l; have h2 := ihx (f.fr l); omega
theorem Zm9 (x : ByteArray) (t : ST) : ∀ l, x ∈ t.fr l ↔ x ∈ l ∨ t.occ x = true := by
 induction t with
 | v s =>
  intro l
  rw [ST.fr, ST.occ, decide_eq_true_iff]
  by_cases h : l.contains s = true
  ·rw [if_pos h]
   exact ⟨.inl, fun h' => h'.elim id fun e => e ▸ (Zso l s).1 h⟩
  ·rw [if_neg h, List.mem_append, List.mem_singleton]
   exact ⟨fun h' => h'.imp id Eq.symm, fun h' => h'.imp id Eq.symm⟩
 | k s => intro l; rw [ST.fr, ST.occ]; simp
 | a f x' ihf ihx => intro l; rw [ST.fr, ST.occ, ihx, ihf, Bool.or_eq_true, or_assoc]
theorem ZxF (s : List ByteArray) (v : ByteArray) : ∀ (xs : List ByteArray) (k : Nat), ∃ r, ZaA s v k xs = some r ∧ decide (r ≥ 0) = xs.contains v
 | [], k => ⟨-1, by rw [ZaA], rfl⟩
 | x :: xs, k => by
  obtain ⟨r, h1, h2⟩ := ZxF s v xs (k + 1)
  rw [ZaA, ZkM, List.contains_cons, Zsd]
  by_cases h : v = x
  ·exact ⟨_, by rw [decide_eq_true h, ifT], by rw [decide_eq_true h, Bool.true_or]; exact decide_eq_true (Int.natCast_nonneg k)⟩
  ·exact ⟨r, by rw [decide_eq_false h, ifF, h1], by rw [decide_eq_false h, Bool.false_or, h2]⟩
theorem Zoa (s : List ByteArray) (v : ByteArray) : Zat s v = some (s.contains v) := by
 obtain ⟨r, h1, h2⟩ := ZxF s v s 0
 rw [Zat, Zc8, h1, Zn, h2]
theorem ZtZ (l b : List ByteArray) (t : Za) (k : Nat) : Zbn l b t k [] = some l := by rw [Zbn]
theorem ZD4 (t : ST) : ∀ l : List ByteArray, l.length + t.nod ≤ 1000000000000 → Zc7 l [] t.ty = some (t.fr l) := by
 induction t with
 | v s =>
  intro l hl
  rw [ST.ty, Zc7, Zbm, Zbm]
  show (if true = true then _ else _) = _
  rw [ifT]
  show (Zat [] s >>= _) = _
  rw [Zoa, Zn]
  show ((if true = true then (Zat l s >>= fun r => some (!r)) else some false) >>= _) = _
  rw [ZzU, Zoa, Zn, Zn, ST.fr]
  show (if (!l.contains s) = true then (Z4 _ >>= fun _ => Zbn (l ++ [s]) [] _ 0 []) else Zbn l [] _ 0 []) = _
  rw [ZtZ, ZtZ]
  cases l.contains s with
  | true => rfl
  | false =>
   rw [Bool.not_false, ifT, Zde]
   ·rfl
   ·rw [ST.nod] at hl; simp only [List.length_cons, List.length_nil]; omega
 | k s => intro l hl; rw [ST.ty, Zc7, Zbm, Zbm]; exact ZtZ _ _ _ _
 | a f x ihf ihx =>
  intro l hl
  rw [ST.nod] at hl
  have h1 := ZtN f l
  rw [ST.ty, Zc7, Zbm, Zbm]
  show (if (((3 : Int) == 1)) = true then _ else if (((3 : Int) == 4)) = true then _ else Zbn l [] _ 0 [f.ty, x.ty]) = _
  rw [if_neg (by decide), if_neg (by decide), Zbn, ihf l (by omega), Zn, Zbn, ihx _ (by omega), Zn, Zbn, ST.fr]
theorem ZyE (t : ST) (h : t.good) : Ze1 t.ty = some (t.fr []) := by
 have hb := Zdg.1 h.2
 rw [Ze1, ZqW t h, Zn, ZD4 t [] (by simp; omega)]; rfl
theorem Zxa (s : List ByteArray) (v : ByteArray) : ∀ (xs : List ByteArray) (k : Nat), ZbS s v k xs = some (xs.contains v)
 | [], k => by rw [ZbS]; rfl
 | x :: xs, k => by
  rw [ZbS, ZkM, List.contains_cons, Zsd, Zxa s v xs (k + 1)]
  by_cases h : x = v
  ·rw [decide_eq_true h, decide_eq_true h.symm]; rfl
  ·rw [decide_eq_false h, decide_eq_false (fun e => h e.symm)]; rfl
theorem ZC6 (t : ST) : ∀ l : List ByteArray, l.length + t.nod ≤ 1000000000000 → Zak l [] t.ty = some (t.fr l) := by
 induction t with
 | v s =>
  intro l hl
  rw [ST.ty, Zak]
  show ((if true = true then (Zbx [] s >>= fun r => some (!r)) else some false) >>= _) = _
  rw [ZzU, Zbx, Zxa, Zn, Zn]
  show (if true = true then (ZcT l s >>= _) else _) = _
  rw [ifT, ZcT, Zbx, Zxa, Zn, ST.fr]
  cases l.contains s with
  | true => rfl
  | false =>
   rw [ifF, ifF, Zde]
   ·rfl
   ·rw [ST.nod] at hl; simp only [List.length_cons, List.length_nil]; omega
 | k s => intro l hl; rw [ST.ty, Zak, Zap, Zap]; show Z7 l [] 0 _ [] = _; rw [Z7]; rfl
 | a f x ihf ihx =>
  intro l hl
  rw [ST.nod] at hl
  have h1 := ZtN f l
  rw [ST.ty, Zak, Zap, Zap]
  show Z7 l [] 0 _ [f.ty, x.ty] = _
  rw [Z7, ihf l (by omega), Zn, Z7, ihx _ (by omega), Zn, Z7, ST.fr]
theorem ZDs (t : ST) (h : t.good) : Zds t.ty = some (t.fr []) := by
 have hb := Zdg.1 h.2
 rw [Zds, Ztj t h, Zn, ZC6 t [] (by simp; omega)]; rfl
theorem Zqo (L : SB) (v : ByteArray) (t : ST) : (t.sub L).occ v = true ↔ ∃ x, t.occ x = true ∧ ((lk x L = none ∧ x = v) ∨ ∃ u, lk x L = some u ∧ u.occ v = true) := by
 induction t with
 | v s =>
  rw [ST.sub]
  simp only [ST.occ, decide_eq_true_eq]
  cases hl : lk s L with
  | none =>
   simp only [Option.getD_none, ST.occ, decide_eq_true_eq]
   exact ⟨fun h => ⟨s, rfl, .inl ⟨hl, h⟩⟩, fun ⟨x, hx, h⟩ => by subst hx; rw [hl] at h; simpa using h⟩
  | some u =>
   simp only [Option.getD_some]
   exact ⟨fun h => ⟨s, rfl, .inr ⟨u, hl, h⟩⟩, fun ⟨x, hx, h⟩ => by subst hx; rw [hl] at h; simpa using h⟩
 | k s => simp [ST.sub, ST.occ]
 | a f x ihf ihx =>
  rw [ST.sub, ST.occ, Bool.or_eq_true, ihf, ihx]
  simp only [ST.occ, Bool.or_eq_true]
  exact ⟨fun h => h.elim (fun ⟨y, h1, h2⟩ => ⟨y, .inl h1, h2⟩) (fun ⟨y, h1, h2⟩ => ⟨y, .inr h1, h2⟩), fun ⟨y, h1, h2⟩ => h1.elim (fun h1 => .inl ⟨y, h1, h2⟩) (fun h1 => .inr ⟨y, h1, h2⟩)⟩
def Zgg (L : SB) : Prop := ∀ p ∈ L, p.2.good ∧ Zmb p.1 = true ∧ p.1.size ≤ 1048576
theorem Zr2 {x : ByteArray} {u : ST} : ∀ {L : SB}, lk x L = some u → (x, u) ∈ L
 | p :: L, h => by
  rw [lk] at h
  by_cases hx : p.1 = x
  ·rw [if_pos hx] at h; injection h with h; subst hx h; exact List.mem_cons_self ..
  ·rw [if_neg hx] at h; exact List.mem_cons_of_mem _ (Zr2 h)
theorem ZwK (L : SB) (hL : Zgg L) (v : ByteArray) (r1 : List ByteArray) : ∀ (xs : List ByteArray) (k : Nat), ZaF v r1 k ⟨L.map toB, atL 0 L⟩ xs = some (xs.any fun x => decide (x = v) || ((lk x L).any fun u => u.occ v))
 | [], k => by rw [ZaF]; rfl
 | x :: xs, k => by
  rw [ZaF, ZkM, List.any_cons]
  by_cases h : x = v
  ·rw [decide_eq_true h]; rfl
  ·rw [decide_eq_false h, ifF, ZuD, Zn, Bool.false_or, ZwK L hL v r1 xs (k + 1)]
   rcases ZsD x L with ⟨h1, h2⟩ | ⟨i, p, h1, h2, h3, h4⟩
   ·rw [h1, h2]; rfl
   ·rw [h1, h4]
    show (((ixI (L.map toB) ((i : Nat) : Int)) >>= _) >>= _) = _
    rw [Zld, List.getElem?_map, h2]
    show ((Ze1 p.2.ty >>= _) >>= _) = _
    rw [ZyE p.2 (hL p (List.mem_of_getElem? h2)).1, Zn, Zoa, Zn, Zn]
    have : (p.2.fr []).contains v = p.2.occ v := by
     rw [Bool.eq_iff_iff, Zso, Zm9]; simp
    rw [this, Option.any_some]
    cases p.2.occ v <;> rfl
theorem ZEX (L : SB) (hL : Zgg L) (v : ByteArray) (t : ST) (ht : t.good) (hv : lk v L = none) : ZcD ⟨L.map toB, atL 0 L⟩ v t.ty = some ((t.sub L).occ v) := by
 rw [ZcD, ZyE t ht, Zn, ZwK L hL]
 congr 1
 rw [Bool.eq_iff_iff, List.any_eq_true, Zqo]
 constructor
 ·rintro ⟨x, hx, h⟩
  have hx := ((Zm9 x t []).1 hx).resolve_left (by simp)
  rw [Bool.or_eq_true, decide_eq_true_iff] at h
  rcases h with h | h
  ·exact ⟨x, hx, .inl ⟨h ▸ hv, h⟩⟩
  ·cases hl : lk x L with
   | none => rw [hl] at h; cases h
   | some u => rw [hl] at h; exact ⟨x, hx, .inr ⟨u, hl, h⟩⟩
 ·rintro ⟨x, hx, h⟩
  refine ⟨x, (Zm9 x t []).2 (.inr hx), ?_⟩
  rw [Bool.or_eq_true, decide_eq_true_iff]
  rcases h with ⟨_, h⟩ | ⟨u, hl, h⟩
  ·exact .inl h
  ·exact .inr (by rw [hl]; exact h)
theorem ZCH (v : ByteArray) (t : ST) : Z2 [] v t.ty = some (t.occ v) := by
 induction t with
 | v s =>
  rw [ST.ty, Z2]
  show (if true = true then _ else _) = _
  rw [ifT, Zb6, Za4, Zn]
  show some _ = _
  rw [ZkM]; rfl
 | k s => rw [ST.ty, Z2]; show ZJ _ v 0 _ [] = _; rw [ZJ]; rfl
 | a f x ihf ihx =>
  rw [ST.ty, Z2]
  show (ZJ [] v 0 _ [f.ty, x.ty]) = _
  rw [ZJ, ihf, Zn, ST.occ, ZJ, ihx, Zn, ZJ]
  cases f.occ v <;> cases x.occ v <;> rfl
theorem ZFN (L : SB) (v : ByteArray) (t : ST) : Z2 (L.map toB) v t.ty = some ((t.sub L).occ v) := by
 induction t with
 | v s =>
  rw [ST.ty, Z2]
  show (if true = true then _ else _) = _
  rw [ifT]
  show (Zb6 (L.map toB) s >>= _) = _
  rw [ZAO, Zn, ST.sub]
  rcases ZsD s L with ⟨h1, h2⟩ | ⟨i, p, h1, h2, h3, h4⟩
  ·rw [h1, h2]
   show some _ = _
   rw [ZkM]; rfl
  ·rw [h1, h4]
   show (if decide (((i : Nat) : Int) ≥ 0) = true then _ else _) = _
   rw [decide_eq_true (Int.natCast_nonneg i), ifT]
   show (ixI _ ((i : Nat) : Int) >>= _) = _
   rw [Zld, List.getElem?_map, h2]
   show (Z2 [] v p.2.ty >>= _) = _
   rw [ZCH]; rfl
 | k s => rw [ST.ty, Z2]; show ZJ _ v 0 _ [] = _; rw [ZJ]; rfl
 | a f x ihf ihx =>
  rw [ST.ty, Z2]
  show (ZJ _ v 0 _ [f.ty, x.ty]) = _
  rw [ZJ, ihf, Zn, ST.sub, ST.occ, ZJ, ihx, Zn, ZJ]
  cases (f.sub L).occ v <;> cases (x.sub L).occ v <;> rfl

def zty : Za := Za.mk 0 (ByteArray.mk #[]) (Zk.mk []) []
def Zrw (c : List (ByteArray × Za)) (L : SB) : Prop := ∀ x, ZfI x c = (lk x L).map ST.ty
theorem Zil {c : List (ByteArray × Za)} {L : SB} (h : Zrw c L) (x : ByteArray) : ZeP c zty x = some (match lk x L with | some u => (u.ty, true) | none => (zty, false)) := by
 unfold ZeP
 rw [h x]
 cases lk x L <;> rfl
theorem ZqR {β : Type} (x k : ByteArray) (v : β) : ∀ c : List (ByteArray × β), ZfI x (ZhW c k v) = if x = k then some v else ZfI x c
 | [] => by
  rw [ZhW, ZfI, ZfI, Zsd]
  by_cases h : x = k
  ·rw [decide_eq_true h, ifT, if_pos h]
  ·rw [decide_eq_false h, ifF, if_neg h]; rfl
 | p :: c => by
  rw [ZhW, Zsd]
  by_cases hk : k = p.1
  ·rw [decide_eq_true hk, ifT, ZfI, ZfI, Zsd, Zsd]
   by_cases h : x = k
   ·rw [decide_eq_true h, ifT, if_pos h]
   ·rw [decide_eq_false h, ifF, if_neg h, decide_eq_false (fun e => h (e.trans hk.symm)), ifF]
  ·rw [decide_eq_false hk, ifF, ZfI, ZfI, Zsd, ZqR x k v c]
   by_cases h : x = p.1
   ·rw [decide_eq_true h, ifT, ifT, if_neg (fun e => hk (e.symm.trans h))]
   ·rw [decide_eq_false h, ifF, ifF]
theorem Zvr (x : ByteArray) (M : SB) : ∀ L : SB, lk x (L ++ M) = match lk x L with | some u => some u | none => lk x M
 | [] => rfl
 | p :: L => by
  rw [List.cons_append, lk, lk]
  by_cases h : p.1 = x
  ·rw [if_pos h, if_pos h]
  ·rw [if_neg h, if_neg h, Zvr x M L]
theorem ZtD : ZaT (Zk.mk []) = some (Zk.mk []) := by rw [ZaT]; show Zbe _ 0 [] [] = _; rw [Zbe]
theorem Zzh (t : ST) : Zco t.ty = some t.ty := by
 induction t with
 | v s => rw [ST.ty, Zco]; show (ZaT (Zk.mk []) >>= _) = _; rw [ZtD, Zn]; show ZaM _ 0 _ [] [] = _; rw [ZaM]; rfl
 | k s => rw [ST.ty, Zco]; show (ZaT (Zk.mk []) >>= _) = _; rw [ZtD, Zn]; show ZaM _ 0 _ [] [] = _; rw [ZaM]; rfl
 | a f x ihf ihx =>
  rw [ST.ty, Zco]
  show (ZaT (Zk.mk []) >>= _) = _
  rw [ZtD, Zn]
  show ZaM _ 0 _ [] [f.ty, x.ty] = _
  rw [ZaM, ihf, Zn, Zde _ (by simp only [List.length_append, List.length_cons, List.length_nil]; decide), ZaM, ihx, Zn, Zde _ (by simp only [List.length_append, List.length_cons, List.length_nil]; decide), ZaM]
  rfl
theorem ZyR (t : ST) : Zcn t.ty = some t.ty := by
 induction t with
 | v s => rw [ST.ty, Zcn]; show ZaJ _ 0 [] [] = _; rw [ZaJ]; rfl
 | k s => rw [ST.ty, Zcn]; show ZaJ _ 0 [] [] = _; rw [ZaJ]; rfl
 | a f x ihf ihx =>
  rw [ST.ty, Zcn]
  show ZaJ _ 0 [] [f.ty, x.ty] = _
  rw [ZaJ, ihf, Zn, Zde _ (by simp only [List.length_append, List.length_cons, List.length_nil]; decide), ZaJ, ihx, Zn, Zde _ (by simp only [List.length_append, List.length_cons, List.length_nil]; decide), ZaJ]
  rfl
theorem Zni {L : SB} (hL : Zgg L) {x : ByteArray} {u : ST} (h : lk x L = some u) : u.good := (hL _ (Zr2 h)).1
theorem ZBF (t : ST) : 1 ≤ t.nod := by cases t <;> simp [ST.nod]; omega
theorem Zlt (t : ST) : t.dep ≤ t.nod := by
 induction t with
 | v s => exact Nat.le_refl _
 | k s => exact Nat.le_refl _
 | a f x ihf ihx => rw [ST.dep, ST.nod]; omega
theorem ZxA {L : SB} (hL : Zgg L) (t : ST) : (t.sub L).nod ≤ 20000 * t.nod := by
 induction t with
 | v s =>
  rw [ST.sub]
  cases h : lk s L with
  | none => simp [ST.nod]
  | some u => have := Zdg.1 (Zni hL h).2; simp only [Option.getD_some, ST.nod]; omega
 | k s => rw [ST.sub, ST.nod]; omega
 | a f x ihf ihx => rw [ST.sub, ST.nod, ST.nod]; omega
theorem ZoC {L : SB} (hL : Zgg L) (t : ST) (ht : t.nms = true) : (t.sub L).nms = true := by
 induction t with
 | v s =>
  rw [ST.sub]
  cases h : lk s L with
  | none => exact ht
  | some u => exact (Zni hL h).1
 | k s => exact ht
 | a f x ihf ihx => rw [ST.nms, Bool.and_eq_true] at ht; rw [ST.sub, ST.nms, ihf ht.1, ihx ht.2]; rfl
theorem ZAQ {c : List (ByteArray × Za)} {L : SB} (hc : Zrw c L) (hL : Zgg L) (t : ST) : t.nod ≤ 20000 → ZbV c t.ty = some ((((t.sub L).nod : Nat) : Int), (((t.sub L).dep : Nat) : Int)) := by
 induction t with
 | v s =>
  intro hb
  rw [ST.ty, ZbV]
  show (ZeP c zty s >>= _) = _
  rw [Zil hc, Zn, ST.sub]
  cases h : lk s L with
  | some u =>
   have hg := Zdg.1 (Zni hL h).2
   show (ZcE u.ty >>= _) = _
   rw [Zz1 _ (by rw [Zkx]; have : BIG = 1000000000000 := rfl; omega), Zn, ZwL _ (by rw [Zkx]; have : BIG = 1000000000000 := rfl; omega), Zn, Zkx, ZqY]
   rfl
  | none =>
   show (ZeP c zty s >>= _) = _
   rw [Zil hc, Zn, h]
   show Z5 0 0 _ 0 c [] = _
   rw [Z5]; rfl
 | k s =>
  intro hb
  rw [ST.ty, ZbV]
  show (ZeP c zty s >>= _) = _
  rw [Zil hc, Zn, ST.sub]
  have hf : ∀ r : Za × Bool, (if (r.2 && ((2 : Int) == 1)) = true then (ZcE r.1 >>= fun r12 => Zcg r.1 >>= fun r13 => some (r12, r13)) else ZeP c zty s >>= fun r16 => if (r16.2 && ((2 : Int) == 4)) = true then none else Z5 0 0 (Za.mk 2 s (Zk.mk []) []) 0 c []) = some (((1 : Nat) : Int), ((1 : Nat) : Int)) := by
   intro r
   rw [show (r.2 && ((2 : Int) == 1)) = false from by rw [show ((2 : Int) == 1) = false from rfl, Bool.and_false], ifF, Zil hc, Zn]
   have h2 : ∀ q : Za × Bool, (if (q.2 && ((2 : Int) == 4)) = true then none else Z5 0 0 (Za.mk 2 s (Zk.mk []) []) 0 c []) = Z5 0 0 (Za.mk 2 s (Zk.mk []) []) 0 c [] := fun q => by
    rw [show (q.2 && ((2 : Int) == 4)) = false from by rw [show ((2 : Int) == 4) = false from rfl, Bool.and_false], ifF]
   rw [h2, Z5]; rfl
  exact hf _
 | a f x ihf ihx =>
  intro hb
  rw [ST.nod] at hb
  have e := ZxA hL (.a f x)
  have d1 := Zlt (f.sub L)
  have d2 := Zlt (x.sub L)
  rw [ST.sub, ST.nod, ST.nod] at e
  rw [ST.ty, ZbV]
  show (ZeP c zty (ByteArray.mk #[]) >>= _) = _
  rw [Zil hc, Zn, ST.sub, ST.nod, ST.dep]
  have hf : ∀ r : Za × Bool, (if (r.2 && ((3 : Int) == 1)) = true then (ZcE r.1 >>= fun r12 => Zcg r.1 >>= fun r13 => some (r12, r13)) else ZeP c zty (ByteArray.mk #[]) >>= fun r16 => if (r16.2 && ((3 : Int) == 4)) = true then none else Z5 0 0 (Za.mk 3 (ByteArray.mk #[]) (Zk.mk []) [f.ty, x.ty]) 0 c [f.ty, x.ty]) = some (((1 + (f.sub L).nod + (x.sub L).nod : Nat) : Int), ((max (f.sub L).dep (x.sub L).dep + 1 : Nat) : Int)) := by
   intro r
   rw [show (r.2 && ((3 : Int) == 1)) = false from by rw [show ((3 : Int) == 1) = false from rfl, Bool.and_false], ifF, Zil hc, Zn]
   have h2 : ∀ q : Za × Bool, (if (q.2 && ((3 : Int) == 4)) = true then none else Z5 0 0 (Za.mk 3 (ByteArray.mk #[]) (Zk.mk []) [f.ty, x.ty]) 0 c [f.ty, x.ty]) = Z5 0 0 (Za.mk 3 (ByteArray.mk #[]) (Zk.mk []) [f.ty, x.ty]) 0 c [f.ty, x.ty] := fun q => by
    rw [show (q.2 && ((3 : Int) == 4)) = false from by rw [show ((3 : Int) == 4) = false from rfl, Bool.and_false], ifF]
   rw [h2, Z5, ihf (by omega), Zn, Z5, ihx (by omega), Zn, Z5]
   have z0 := ZgY (f.sub L).dep 0
   rw [Int.natCast_zero, Nat.max_eq_right (Nat.zero_le _)] at z0
   show some (IntKind.i64.wrap (IntKind.i64.wrap (IntKind.i64.wrap (0 + (((f.sub L).nod : Nat) : Int)) + (((x.sub L).nod : Nat) : Int)) + 1), IntKind.i64.wrap ((if (((x.sub L).dep : Nat) : Int) > (if (((f.sub L).dep : Nat) : Int) > 0 then (((f.sub L).dep : Nat) : Int) else 0) then (((x.sub L).dep : Nat) : Int) else (if (((f.sub L).dep : Nat) : Int) > 0 then (((f.sub L).dep : Nat) : Int) else 0)) + 1)) = _
   have w1 : IntKind.i64.wrap (((f.sub L).nod : Nat) : Int) = (((f.sub L).nod : Nat) : Int) := w64 (by omega) (by omega)
   have w2 : IntKind.i64.wrap ((((f.sub L).nod : Nat) : Int) + (((x.sub L).nod : Nat) : Int)) = (((f.sub L).nod : Nat) : Int) + (((x.sub L).nod : Nat) : Int) := w64 (by omega) (by omega)
   rw [z0, ZgY, Int.zero_add, w1, w2, w64 (by omega) (by omega), w64 (by omega) (by omega)]
   refine congrArg some (Prod.ext ?_ ?_)
   ·show _ = ((1 + (f.sub L).nod + (x.sub L).nod : Nat) : Int); omega
   ·show _ = ((max (f.sub L).dep (x.sub L).dep + 1 : Nat) : Int); omega
  exact hf _
theorem ZBR {c : List (ByteArray × Za)} {L : SB} (hc : Zrw c L) (t : ST) : ZcQ c t.ty = some (t.sub L).ty := by
 induction t with
 | v s =>
  rw [ST.ty, ZcQ]
  show (ZeP c zty s >>= _) = _
  rw [Zil hc, Zn, ST.sub]
  cases h : lk s L with
  | some u => show (Zco u.ty >>= _) = _; rw [Zzh]; rfl
  | none => rfl
 | k s => rw [ST.ty, ZcQ]; show Zby _ 0 [] c [] = _; rw [Zby]; rfl
 | a f x ihf ihx =>
  rw [ST.ty, ZcQ]
  show Zby _ 0 [] c [f.ty, x.ty] = _
  rw [Zby, ihf, Zn, Zde _ (by simp only [List.length_append, List.length_cons, List.length_nil]; decide), Zby, ihx, Zn, Zde _ (by simp only [List.length_append, List.length_cons, List.length_nil]; decide), Zby]
  rfl
def Zin (L : SB) (t : ST) : Za := if (t.sub L).big = true then zty else (t.sub L).ty
theorem ZDB (a b : Nat) : (decide (((a : Nat) : Int) > 20000) || decide (((b : Nat) : Int) > 100)) = (decide (20000 < a) || decide (100 < b)) := by
 congr 1
 ·exact decide_eq_decide.2 (by omega)
 ·exact decide_eq_decide.2 (by omega)
theorem Zvn {c : List (ByteArray × Za)} {M : SB} (hc : Zrw c M) (p : ByteArray × ST) : Zrw (match ZfI p.1 c with | some _ => c | none => ZhW c p.1 p.2.ty) (M ++ [p]) := by
 intro x
 rw [Zvr]
 have e := hc p.1
 cases h : lk p.1 M with
 | some u =>
  rw [h] at e
  rw [e]
  show ZfI x c = _
  rw [hc x]
  cases hx : lk x M with
  | some w => rfl
  | none =>
   show none = (lk x [p]).map ST.ty
   rw [lk, if_neg (fun e => by rw [e] at h; rw [h] at hx; cases hx)]; rfl
 | none =>
  rw [h] at e
  rw [e]
  show ZfI x (ZhW c p.1 p.2.ty) = _
  rw [ZqR]
  by_cases hx : x = p.1
  ·rw [if_pos hx, hx, h]; show _ = (lk p.1 [p]).map ST.ty; rw [lk, if_pos rfl]; rfl
  ·rw [if_neg hx, hc x]
   cases lk x M with
   | some w => rfl
   | none => show none = (lk x [p]).map ST.ty; rw [lk, if_neg (fun e => hx e.symm)]; rfl
theorem ZwU (s : List Ze) (t : ST) (ht : t.good) : ∀ (L M : SB) (c : List (ByteArray × Za)) (k : Nat), Zrw c M → Zgg (M ++ L) → Zcr s k t.ty c (L.map toB) = some (Zin (M ++ L) t)
 | [], M, c, k, hc, hg => by
  have hb := Zdg.1 ht.2
  rw [List.append_nil] at hg ⊢
  rw [List.map_nil, Zcr, ZAQ hc hg t (by omega), Zn, ZDB]
  show (if (t.sub M).big = true then _ else _) = _
  unfold Zin
  cases (t.sub M).big with
  | true => rfl
  | false => rw [ifF, ifF, ZBR hc, Zn]
 | p :: L, M, c, k, hc, hg => by
  have hp := hg p (by simp)
  have ih := ZwU s t ht L (M ++ [p]) (match ZfI p.1 c with | some _ => c | none => ZhW c p.1 p.2.ty) (k + 1) (Zvn hc p) (by simpa using hg)
  rw [List.append_assoc, List.singleton_append] at ih
  rw [List.map_cons, Zcr]
  show (Za7 p.1 >>= _) = _
  rw [ZAA _ (by omega), Zn, hp.2.1]
  show ((Zci p.2.ty >>= _) >>= _) = _
  rw [ZqW _ hp.1, Zn, Zn]
  show (ZeP c zty p.1 >>= _) = _
  rw [ZeP]
  cases h : ZfI p.1 c with
  | some w => rw [h] at ih; exact ih
  | none => rw [h] at ih; exact ih
theorem ZGA (L : SB) (hL : Zgg L) (t : ST) (ht : t.good) : ZeO (L.map toB) t.ty = some (Zin L t) := by
 rw [ZeO, ZqW t ht, Zn]
 exact ZwU _ t ht L [] [] 0 (fun x => rfl) hL
theorem Zus (s : List Ze) (t : ST) (ht : t.good) : ∀ (L M : SB) (c : List (ByteArray × Za)) (k : Nat), Zrw c M → Zgg (M ++ L) → Zb5 s k t.ty c (L.map toB) = some (Zin (M ++ L) t)
 | [], M, c, k, hc, hg => by
  have hb := Zdg.1 ht.2
  rw [List.append_nil] at hg ⊢
  rw [List.map_nil, Zb5, ZAQ hc hg t (by omega), Zn, ZDB]
  show (if (t.sub M).big = true then _ else _) = _
  unfold Zin
  cases (t.sub M).big with
  | true => rfl
  | false => rw [ifF, ifF, ZBR hc, Zn]
 | p :: L, M, c, k, hc, hg => by
  have hp := hg p (by simp)
  have ih := Zus s t ht L (M ++ [p]) (match ZfI p.1 c with | some _ => c | none => ZhW c p.1 p.2.ty) (k + 1) (Zvn hc p) (by simpa using hg)
  rw [List.append_assoc, List.singleton_append] at ih
  rw [List.map_cons, Zb5]
  show (Za7 p.1 >>= _) = _
  rw [ZAA _ (by omega), Zn, hp.2.1]
  show ((Zci p.2.ty >>= _) >>= _) = _
  rw [ZqW _ hp.1, Zn, Zn]
  show (ZeP c zty p.1 >>= _) = _
  rw [ZeP]
  cases h : ZfI p.1 c with
  | some w => rw [h] at ih; exact ih
  | none => rw [h] at ih; exact ih
theorem ZDk (L : SB) (hL : Zgg L) (t : ST) (ht : t.good) : Zeh (L.map toB) t.ty = some (Zin L t) := by
 rw [Zeh, ZqW t ht, Zn]
 exact Zus _ t ht L [] [] 0 (fun x => rfl) hL
theorem Zuo (s : List Ze) (x : ByteArray) : ∀ (L : SB) (k : Nat), ZbC s x k (L.map toB) = some (match lk x L with | some u => (u.ty, true) | none => (zty, false))
 | [], k => by rw [List.map_nil, ZbC]; rfl
 | p :: L, k => by
  rw [List.map_cons, ZbC, ZkM, lk]
  show (if decide (p.1 = x) = true then _ else _) = _
  by_cases h : p.1 = x
  ·rw [decide_eq_true h, ifT, if_pos h]; rfl
  ·rw [decide_eq_false h, ifF, if_neg h, Zuo s x L (k + 1)]
theorem Zy3 (L : SB) (x : ByteArray) : Zb7 (L.map toB) x = some (match lk x L with | some u => (u.ty, true) | none => (zty, false)) := by rw [Zb7, Zuo]
theorem ZCd (L : SB) (hL : Zgg L) (t : ST) : t.nod ≤ 20000 → ZaB (L.map toB) [] t.ty = some ((((t.sub L).nod : Nat) : Int), (((t.sub L).dep : Nat) : Int)) := by
 induction t with
 | v s =>
  intro hb
  rw [ST.ty, ZaB]
  show ((if true = true then (Zbx [] s >>= fun r => some (!r)) else some false) >>= _) = _
  rw [ZzU, Zbx, Zxa, Zn, Zn]
  show (Zb7 (L.map toB) s >>= _) = _
  rw [Zy3, Zn, ST.sub]
  cases h : lk s L with
  | some u =>
   have hg := Zdg.1 (Zni hL h).2
   show (ZaK u.ty >>= _) = _
   rw [Zv2 _ (by rw [Zkx]; have : BIG = 1000000000000 := rfl; omega), Zn, Ztx _ (by rw [Zkx]; have : BIG = 1000000000000 := rfl; omega), Zn, Zkx, ZqY]
   rfl
  | none =>
   show Z9 _ [] _ = _
   rw [Z9]
   show Z8 _ [] _ = _
   rw [Z8]
   show ZW _ [] 1 0 0 _ [] = _
   rw [ZW]; rfl
 | k s =>
  intro hb
  rw [ST.ty, ZaB]
  show Z9 _ [] _ = _
  rw [Z9]
  show Z8 _ [] _ = _
  rw [Z8]
  show ZW _ [] 1 0 0 _ [] = _
  rw [ZW]; rfl
 | a f x ihf ihx =>
  intro hb
  rw [ST.nod] at hb
  have e := ZxA hL (.a f x)
  have d1 := Zlt (f.sub L)
  have d2 := Zlt (x.sub L)
  rw [ST.sub, ST.nod, ST.nod] at e
  rw [ST.ty, ZaB, ST.sub, ST.nod, ST.dep]
  show Z9 _ [] _ = _
  rw [Z9]
  show Z8 _ [] _ = _
  rw [Z8]
  show ZW _ [] 1 0 0 _ [f.ty, x.ty] = _
  rw [ZW, ihf (by omega), Zn, ZW, ihx (by omega), Zn, ZW]
  have z0 := ZgY (f.sub L).dep 0
  rw [Int.natCast_zero, Nat.max_eq_right (Nat.zero_le _)] at z0
  show some (IntKind.i64.wrap (IntKind.i64.wrap (1 + (((f.sub L).nod : Nat) : Int)) + (((x.sub L).nod : Nat) : Int)), IntKind.i64.wrap ((if (((x.sub L).dep : Nat) : Int) > (if (((f.sub L).dep : Nat) : Int) > 0 then (((f.sub L).dep : Nat) : Int) else 0) then (((x.sub L).dep : Nat) : Int) else (if (((f.sub L).dep : Nat) : Int) > 0 then (((f.sub L).dep : Nat) : Int) else 0)) + 1)) = _
  have w1 : IntKind.i64.wrap (1 + (((f.sub L).nod : Nat) : Int)) = 1 + (((f.sub L).nod : Nat) : Int) := w64 (by omega) (by omega)
  rw [z0, ZgY, w1, w64 (by omega) (by omega), w64 (by omega) (by omega)]
  refine congrArg some (Prod.ext ?_ ?_)
  ·show _ = ((1 + (f.sub L).nod + (x.sub L).nod : Nat) : Int); omega
  ·show _ = ((max (f.sub L).dep (x.sub L).dep + 1 : Nat) : Int); omega
theorem ZFZ (L : SB) (t : ST) : Zao (L.map toB) t.ty = some (t.sub L).ty := by
 induction t with
 | v s =>
  rw [ST.ty, Zao]
  show (Zb7 (L.map toB) s >>= _) = _
  rw [Zy3, Zn, ST.sub]
  cases h : lk s L <;> rfl
 | k s => rw [ST.ty, Zao]; rfl
 | a f x ihf ihx =>
  rw [ST.ty, Zao]
  show ((some x.ty) >>= fun ZxX => (some f.ty) >>= fun ZxT => Zao (L.map toB) ZxT >>= fun ZAo => Zao (L.map toB) ZxX >>= fun Zy2 => Zeu ZAo Zy2 >>= fun ZBa => some ZBa) = _
  rw [Zn, Zn, ihf, Zn, ihx, Zn]; rfl
theorem Zxd (M : SB) (t : ST) (ht : t.good) (hM : Zgg M) : ∀ (L : SB) (k : Nat), Zgg L → Zbc (M.map toB) k t.ty (L.map toB) = some (Zin M t)
 | [], k, _ => by
  have hb := Zdg.1 ht.2
  rw [List.map_nil, Zbc, ZCd M hM t (by omega), Zn, ZDB]
  show (if (t.sub M).big = true then _ else _) = _
  unfold Zin
  cases (t.sub M).big with
  | true => rfl
  | false => rw [ifF, ifF, ZFZ, Zn]
 | p :: L, k, hg => by
  have hp := hg p (by simp)
  rw [List.map_cons, Zbc]
  show (ZbE p.1 >>= _) = _
  rw [ZB2 _ (by omega), Zn, hp.2.1]
  show ((ZaG p.2.ty >>= _) >>= _) = _
  rw [Ztj _ hp.1, Zn, Zn]
  exact Zxd M t ht hM L (k + 1) fun q hq => hg q (by simp [hq])
theorem Zxf (L : SB) (hL : Zgg L) (t : ST) (ht : t.good) : Za3 (L.map toB) t.ty = some (Zin L t) := by
 rw [Za3, Ztj t ht, Zn]
 exact Zxd L t ht hL L 0 hL
theorem Zo1 (L : SB) (t : ST) : ((Zin L t).fOp == 0) = (t.sub L).big := by
 unfold Zin
 cases (t.sub L).big with
 | true => rfl
 | false => rw [ifF, ZEU]; cases t.sub L <;> rfl

def bg (v : ByteArray) (u : ST) (p : ByteArray × ST) : ByteArray × ST := (p.1, p.2.sub [(v, u)])
def Zms (v : ByteArray) (u : ST) (p : ByteArray × ST) : Bool := (p.2.sub [(v, u)]).big
theorem ZHl {A : SB} {x : Nat} (hx : A.length = x) (p q : ByteArray × ST) (B : SB) : (((A ++ p :: B).map toB).set x (toB q)) = ((A ++ [q]) ++ B).map toB := by
 subst hx
 rw [List.map_append, List.map_append, List.map_append, List.map_cons, List.set_append_right _ _ (by simp), List.length_map, Nat.sub_self, List.set_cons_zero]
 simp
theorem ZFp {A : SB} {x : Nat} (hx : A.length = x) (p : ByteArray × ST) (B : SB) : ((A ++ p :: B).map toB)[x]? = some (toB p) := by
 subst hx; simp
theorem ZuE (v : ByteArray) (u : ST) (hu : Zgg [(v, u)]) (s : Zu) : ∀ (B A : SB) (x : Nat), A.length = x → s.flist.length = x + B.length → Zgg B → x + B.length ≤ 1000000000 →
  (B.any (Zms v u) = true → ∃ s', Zac v u.ty s x ((A ++ B).map toB) = some (3, s')) ∧
  (B.any (Zms v u) = false → Zac v u.ty s x ((A ++ B).map toB) = some (0, ⟨(A ++ B.map (bg v u) ++ [(v, u)]).map toB, ZhW s.fat v (((A ++ B).length : Nat) : Int)⟩))
 | [], A, x, hx, hs, _, hl => by
  refine ⟨fun h => (by cases h), fun _ => ?_⟩
  simp only [List.length_nil, Nat.add_zero] at hs hl
  rw [Zac, hs, decide_eq_false (by omega), ifF, Zde]
  ·simp [toB]
  ·simp; omega
 | p :: B, A, x, hx, hs, hB, hl => by
  rw [List.length_cons] at hs hl
  have hp := hB p (by simp)
  have ih := ZuE v u hu s B (A ++ [bg v u p]) (x + 1) (by simp [hx]) (by omega) (fun q hq => hB q (by simp [hq])) (by omega)
  have e : Zac v u.ty s x ((A ++ p :: B).map toB) = if Zms v u p = true then some (3, ⟨(A ++ p :: B).map toB, s.fat⟩) else Zac v u.ty s (x + 1) (((A ++ [bg v u p]) ++ B).map toB) := by
   rw [Zac, hs, decide_eq_true (by omega), ifT, ZFp hx, Zn]
   show (Zeh ([(v, u)].map toB) p.2.ty >>= _) = _
   rw [ZDk [(v, u)] hu p.2 hp.1, Zn, Zo1, Zn]
   show (if Zms v u p = true then _ else _) = _
   cases hb : Zms v u p with
   | true => rfl
   | false =>
    rw [ifF, ifF]
    have hr : Zin [(v, u)] p.2 = (p.2.sub [(v, u)]).ty := by unfold Zin; rw [show (p.2.sub [(v, u)]).big = false from hb, ifF]
    rw [hr]
    show Zac v u.ty s (x + 1) (((A ++ p :: B).map toB).set x (toB (bg v u p))) = _
    rw [ZHl hx]
  rw [e, List.any_cons]
  cases hb : Zms v u p with
  | true => exact ⟨fun _ => ⟨_, rfl⟩, fun h => by cases h⟩
  | false =>
   rw [ifF, Bool.false_or]
   refine ⟨ih.1, fun h => ?_⟩
   rw [ih.2 h]
   simp [bg]
theorem Zvh (s : List Ze) (v : ByteArray) (u : ST) (hu : Zgg [(v, u)]) : ∀ (B A : SB) (x : Nat), Zgg B → A.length + B.length ≤ 1000000000 →
  ZbD s v u.ty (A.map toB) x (B.map toB) = some (if B.any (Zms v u) = true then ([], 3) else ((A ++ B.map (bg v u) ++ [(v, u)]).map toB, 0))
 | [], A, x, _, hl => by
  rw [List.map_nil, ZbD, Zde]
  ·simp [toB]
  ·simp at hl ⊢; omega
 | p :: B, A, x, hB, hl => by
  rw [List.length_cons] at hl
  have hp := hB p (by simp)
  have ih := Zvh s v u hu B (A ++ [bg v u p]) (x + 1) (fun q hq => hB q (by simp [hq])) (by simp; omega)
  rw [List.map_cons, ZbD]
  show (Za3 ([(v, u)].map toB) p.2.ty >>= _) = _
  rw [Zxf [(v, u)] hu p.2 hp.1, Zn, Zo1, List.any_cons]
  show (if Zms v u p = true then _ else _) = _
  cases hb : Zms v u p with
  | true => rfl
  | false =>
   have hr : Zin [(v, u)] p.2 = (p.2.sub [(v, u)]).ty := by unfold Zin; rw [show (p.2.sub [(v, u)]).big = false from hb, ifF]
   rw [ifF, hr, Zde _ (by simp; omega), Bool.false_or]
   have e : A.map toB ++ [Ze.mk (toB p).fName (p.2.sub [(v, u)]).ty] = (A ++ [bg v u p]).map toB := by simp [toB, bg]
   rw [e, ih]
   simp
def ZfX (L : SB) (v : ByteArray) (t : ST) : Int × SB :=
 if (t.sub L).occ v = true then (23, [])
 else if (t.sub L).big = true then (3, [])
 else if L.any (Zms v (t.sub L)) = true then (3, [])
 else (0, L.map (bg v (t.sub L)) ++ [(v, t.sub L)])
theorem ZBx {x : ByteArray} {L : SB} (h : lk x L = none) : fi x L = none := by
 rcases ZsD x L with ⟨h1, _⟩ | ⟨i, p, _, _, _, h4⟩
 ·exact h1
 ·rw [h] at h4; cases h4
theorem ZDv (L : SB) (hL : Zgg L) (v : ByteArray) (hv : Zmb v = true ∧ v.size ≤ 1048576) (t : ST) (ht : t.good) (hl : L.length ≤ 1000000000) :
  Za8 (L.map toB) v t.ty = some ((ZfX L v t).2.map toB, (ZfX L v t).1) := by
 rw [Za8, ZFN, Zn]
 unfold ZfX
 cases ho : (t.sub L).occ v with
 | true => rfl
 | false =>
  rw [ifF, ifF, Zxf L hL t ht, Zn, Zo1]
  cases hb : (t.sub L).big with
  | true => rfl
  | false =>
   have hr : Zin L t = (t.sub L).ty := by unfold Zin; rw [hb, ifF]
   have hu : Zgg [(v, t.sub L)] := fun p hp => by rw [List.mem_singleton] at hp; subst hp; exact ⟨⟨ZoC hL t ht.1, hb⟩, hv⟩
   rw [ifF, ifF, hr]
   have := Zvh (L.map toB) v (t.sub L) hu L [] 0 hL (by simpa using hl)
   rw [List.map_nil] at this
   rw [this, List.nil_append]
   cases L.any (Zms v (t.sub L)) <;> rfl
theorem Zvw (L : SB) (hL : Zgg L) (v : ByteArray) (hv : Zmb v = true ∧ v.size ≤ 1048576) (hf : lk v L = none) (t : ST) (ht : t.good) (hl : L.length ≤ 1000000000) :
  ∃ s', ZaE ⟨L.map toB, atL 0 L⟩ v t.ty = some ((ZfX L v t).1, s') ∧ ((ZfX L v t).1 = 0 → s' = ⟨(ZfX L v t).2.map toB, atL 0 (ZfX L v t).2⟩) := by
 rw [ZaE, ZEX L hL v t ht hf, Zn]
 unfold ZfX
 cases ho : (t.sub L).occ v with
 | true => exact ⟨_, rfl, fun h => by cases h⟩
 | false =>
  rw [ifF, ifF]
  show ∃ s', (ZeO (L.map toB) t.ty >>= _) = _ ∧ _
  rw [ZGA L hL t ht, Zn, Zo1]
  cases hb : (t.sub L).big with
  | true => exact ⟨_, rfl, fun h => by cases h⟩
  | false =>
   have hr : Zin L t = (t.sub L).ty := by unfold Zin; rw [hb, ifF]
   have hu : Zgg [(v, t.sub L)] := fun p hp => by rw [List.mem_singleton] at hp; subst hp; exact ⟨⟨ZoC hL t ht.1, hb⟩, hv⟩
   rw [ifF, ifF, hr]
   obtain ⟨h1, h2⟩ := ZuE v (t.sub L) hu ⟨L.map toB, atL 0 L⟩ L [] 0 rfl (by simp) hL (by simpa using hl)
   rw [List.nil_append] at h1 h2
   cases hg : L.any (Zms v (t.sub L)) with
   | true =>
    obtain ⟨s', h1⟩ := h1 hg
    exact ⟨s', h1, fun h => by cases h⟩
   | false =>
    refine ⟨_, h2 hg, fun _ => ?_⟩
    rw [List.nil_append, ZwE v (t.sub L) L 0 _ (ZBx hf) (by omega)]
    show _ = Zu.mk ((L.map (bg v (t.sub L)) ++ [(v, t.sub L)]).map toB) (atL 0 (L.map (bg v (t.sub L)) ++ [(v, t.sub L)]))
    congr 1
    have : ∀ (L M : SB) (g : ByteArray × ST → ST) (k : Nat), atL k (L.map (fun p => (p.1, g p)) ++ M) = atL k (L ++ M) := by
     intro L M g
     induction L with
     | nil => intro k; rfl
     | cons p L ih => intro k; rw [List.map_cons, List.cons_append, List.cons_append, atL, atL, ih]
    exact (this L _ (fun p => p.2.sub [(v, t.sub L)]) 0).symm

def ZrB (L : SB) : Prop := ∀ p ∈ L, ∀ y, p.2.occ y = true → lk y L = none
theorem Zxu {L : SB} (h : ZrB L) {x : ByteArray} {u : ST} (hx : lk x L = some u) {y : ByteArray} (hy : u.occ y = true) : lk y L = none := h _ (Zr2 hx) y hy
theorem ZC9 (L : SB) (t : ST) : (∀ y, t.occ y = true → lk y L = none) → t.sub L = t := by
 induction t with
 | v s => intro h; rw [ST.sub, h s (by simp [ST.occ])]; rfl
 | k s => intro h; rfl
 | a f x ihf ihx => intro h; rw [ST.sub, ihf fun y hy => h y (by simp [ST.occ, hy]), ihx fun y hy => h y (by simp [ST.occ, hy])]
theorem Zu8 {L : SB} (hI : ZrB L) (t : ST) {y : ByteArray} (h : (t.sub L).occ y = true) : lk y L = none := by
 obtain ⟨x, _, h | ⟨u, h1, h2⟩⟩ := (Zqo L y t).1 h
 ·exact h.2 ▸ h.1
 ·exact Zxu hI h1 h2
theorem Zua {L : SB} (hI : ZrB L) (t : ST) : (t.sub L).sub L = t.sub L := ZC9 L _ fun y hy => Zu8 hI t hy
theorem Zxb {L : SB} (hI : ZrB L) (t : ST) : (t.res L).sub L = t.sub L := by
 cases t with
 | v s =>
  show ((lk s L).getD (.v s)).sub L = (lk s L).getD (.v s)
  have := Zua hI (.v s)
  exact this
 | k s => rfl
 | a f x => rfl
theorem Ztq {L : SB} (hI : ZrB L) {t : ST} {x : ByteArray} (h : t.res L = .v x) : lk x L = none := by
 cases t with
 | v s =>
  rw [ST.res] at h
  cases hs : lk s L with
  | none => rw [hs] at h; injection h with h; exact h ▸ hs
  | some u => rw [hs] at h; simp only [Option.getD_some] at h; subst h; exact Zxu hI hs (by simp [ST.occ])
 | k s => cases h
 | a f x => cases h
theorem Zui {L : SB} (hL : Zgg L) {t : ST} (ht : t.good) : (t.res L).good := by
 cases t with
 | v s =>
  rw [ST.res]
  cases hs : lk s L with
  | none => exact ht
  | some u => exact Zni hL hs
 | k s => exact ht
 | a f x => exact ht
theorem ZwD {L : SB} {t : ST} {y : ByteArray} (h : (t.res L).occ y = true) : t.occ y = true ∨ ∃ p ∈ L, p.2.occ y = true := by
 cases t with
 | v s =>
  rw [ST.res] at h
  cases hs : lk s L with
  | none => rw [hs] at h; exact .inl h
  | some u => rw [hs] at h; exact .inr ⟨_, Zr2 hs, h⟩
 | k s => exact .inl h
 | a f x => exact .inl h
theorem Zxt {L : SB} (hL : Zgg L) (t : ST) : (t.sub L).dep ≤ t.dep + 99 := by
 induction t with
 | v s =>
  rw [ST.sub]
  cases hs : lk s L with
  | none => simp [ST.dep]
  | some u => have := Zdg.1 (Zni hL hs).2; simp only [Option.getD_some, ST.dep]; omega
 | k s => simp [ST.sub, ST.dep]
 | a f x ihf ihx => rw [ST.sub, ST.dep, ST.dep]; omega
def ZnG (L : SB) (v : ByteArray) (u : ST) : SB := L.map (bg v u) ++ [(v, u)]
theorem ZAC (x v : ByteArray) (u : ST) : ∀ L : SB, lk x (L.map (bg v u)) = (lk x L).map fun t => t.sub [(v, u)]
 | [] => rfl
 | p :: L => by
  rw [List.map_cons, lk, lk, ZAC x v u L]
  show (if p.1 = x then _ else _) = _
  by_cases h : p.1 = x
  ·rw [if_pos h, if_pos h]; rfl
  ·rw [if_neg h, if_neg h]
theorem Zq1 (x v : ByteArray) (u : ST) : lk x [(v, u)] = if v = x then some u else none := by rw [lk]; rfl
theorem ZpP (x v : ByteArray) (u : ST) (L : SB) : lk x (ZnG L v u) = match lk x L with | some t => some (t.sub [(v, u)]) | none => if v = x then some u else none := by
 unfold ZnG
 rw [Zvr, ZAC]
 cases lk x L with
 | some t => rfl
 | none => exact Zq1 x v u
theorem ZwR {L : SB} {v : ByteArray} {u : ST} (t : ST) : t.sub (ZnG L v u) = (t.sub L).sub [(v, u)] := by
 induction t with
 | v s =>
  rw [ST.sub, ST.sub, ZpP]
  cases hs : lk s L with
  | some w => rfl
  | none =>
   show _ = (ST.v s).sub [(v, u)]
   rw [ST.sub, Zq1]
 | k s => rfl
 | a f x ihf ihx => rw [ST.sub, ihf, ihx]; rfl
theorem Zwu {v y : ByteArray} {u t : ST} (h : (t.sub [(v, u)]).occ y = true) : (t.occ y = true ∧ y ≠ v) ∨ (u.occ y = true ∧ t.occ v = true) := by
 obtain ⟨x, h1, ⟨h2, h3⟩ | ⟨w, h2, h3⟩⟩ := (Zqo _ y t).1 h
 ·rw [Zq1] at h2
  subst h3
  exact .inl ⟨h1, fun e => by rw [if_pos e.symm] at h2; cases h2⟩
 ·rw [Zq1] at h2
  by_cases e : v = x
  ·rw [if_pos e] at h2; injection h2 with h2; subst e h2; exact .inr ⟨h3, h1⟩
  ·rw [if_neg e] at h2; cases h2
theorem ZAT {L : SB} (hI : ZrB L) {v : ByteArray} {t : ST} (hv : lk v L = none) (ho : (t.sub L).occ v = false) : ZrB (ZnG L v (t.sub L)) := by
 have key : ∀ y, lk y L = none → y ≠ v → lk y (ZnG L v (t.sub L)) = none := fun y h1 h2 => by rw [ZpP, h1]; exact if_neg fun e => h2 e.symm
 have ku : ∀ y, (t.sub L).occ y = true → lk y (ZnG L v (t.sub L)) = none := fun y hy => key y (Zu8 hI t hy) fun e => by subst e; rw [ho] at hy; cases hy
 intro p hp y hy
 unfold ZnG at hp
 rcases List.mem_append.1 hp with hp | hp
 ·obtain ⟨q, hq, rfl⟩ := List.mem_map.1 hp
  rcases Zwu hy with ⟨h1, h2⟩ | ⟨h1, _⟩
  ·exact key y (hI q hq y h1) h2
  ·exact ku y h1
 ·rw [List.mem_singleton] at hp; subst hp; exact ku y hy
theorem Zw9 {v : ByteArray} {u : ST} {M : SB} (h : (ST.v v).sub M = u.sub M) (w : ST) : (w.sub [(v, u)]).sub M = w.sub M := by
 induction w with
 | v s =>
  rw [ST.sub, Zq1]
  by_cases e : v = s
  ·rw [if_pos e, ← e]; exact h.symm
  ·rw [if_neg e]; rfl
 | k s => rfl
 | a f x ihf ihx => rw [ST.sub, ST.sub, ihf, ihx]; rfl
def unb (V : List ByteArray) (L : SB) : Nat := (V.filter fun x => (lk x L).isNone).length
theorem ZsA {α : Type} (p q : α → Bool) (hpq : ∀ x, q x = true → p x = true) : ∀ (V : List α) (v : α), v ∈ V → p v = true → q v = false → (V.filter q).length < (V.filter p).length
 | a :: V, v, hv, hp, hq => by
  have le : ∀ V : List α, (V.filter q).length ≤ (V.filter p).length := fun V => by
   induction V with
   | nil => exact Nat.le_refl _
   | cons a V ih =>
    rw [List.filter_cons, List.filter_cons]
    cases h1 : q a with
    | true => rw [hpq a h1]; simpa using ih
    | false => cases p a <;> simp <;> omega
  rw [List.filter_cons, List.filter_cons]
  rcases List.mem_cons.1 hv with rfl | hv
  ·rw [hp, hq]; have := le V; simp; omega
  ·have ih := ZsA p q hpq V v hv hp hq
   cases h1 : q a with
   | true => rw [hpq a h1]; simpa using ih
   | false => cases p a <;> simp <;> omega
theorem ZBc {V : List ByteArray} {L : SB} {v : ByteArray} {u : ST} (hv : v ∈ V) (hf : lk v L = none) : unb V (ZnG L v u) < unb V L := by
 refine ZsA _ _ (fun x hx => ?_) V v hv (by rw [hf]; rfl) (by rw [ZpP, hf]; simp)
 rw [ZpP] at hx
 cases h : lk x L with
 | none => rfl
 | some w => rw [h] at hx; cases hx
theorem ZzE {L : SB} (hL : Zgg L) {v : ByteArray} {t : ST} (hv : Zmb v = true ∧ v.size ≤ 1048576) (ht : t.good) (hb : (t.sub L).big = false) (hg : L.any (Zms v (t.sub L)) = false) : Zgg (ZnG L v (t.sub L)) := by
 have hu : Zgg [(v, t.sub L)] := fun p hp => by rw [List.mem_singleton] at hp; subst hp; exact ⟨⟨ZoC hL t ht.1, hb⟩, hv⟩
 intro p hp
 unfold ZnG at hp
 rcases List.mem_append.1 hp with hp | hp
 ·obtain ⟨q, hq, rfl⟩ := List.mem_map.1 hp
  have hq' := hL q hq
  refine ⟨⟨ZoC hu q.2 hq'.1.1, ?_⟩, hq'.2⟩
  rw [List.any_eq_false] at hg
  have := hg q hq
  show (q.2.sub [(v, t.sub L)]).big = false
  simpa [Zms] using this
 ·exact hu p hp
def Vin (V : List ByteArray) (L : SB) : Prop := ∀ p ∈ L, ∀ y, p.2.occ y = true → y ∈ V
theorem ZxJ {V : List ByteArray} {L : SB} (h : Vin V L) {t : ST} (ht : ∀ y, t.occ y = true → y ∈ V) {y : ByteArray} (hy : (t.sub L).occ y = true) : y ∈ V := by
 obtain ⟨x, h1, ⟨_, h3⟩ | ⟨w, h2, h3⟩⟩ := (Zqo _ y t).1 hy
 ·exact h3 ▸ ht x h1
 ·exact h _ (Zr2 h2) y h3
theorem ZBN {V : List ByteArray} {L : SB} (h : Vin V L) {v : ByteArray} {t : ST} (ht : ∀ y, t.occ y = true → y ∈ V) : Vin V (ZnG L v (t.sub L)) := by
 intro p hp y hy
 unfold ZnG at hp
 rcases List.mem_append.1 hp with hp | hp
 ·obtain ⟨q, hq, rfl⟩ := List.mem_map.1 hp
  rcases Zwu hy with ⟨h1, _⟩ | ⟨h1, _⟩
  ·exact h q hq y h1
  ·exact ZxJ h ht h1
 ·rw [List.mem_singleton] at hp; subst hp; exact ZxJ h ht hy
theorem ZyK {L : SB} {v : ByteArray} {t : ST} (h : (ZfX L v t).1 = 0) : (t.sub L).occ v = false ∧ (t.sub L).big = false ∧ L.any (Zms v (t.sub L)) = false ∧ (ZfX L v t).2 = ZnG L v (t.sub L) := by
 unfold ZfX at h ⊢
 cases h1 : (t.sub L).occ v with
 | true => rw [h1] at h; cases h
 | false =>
  cases h2 : (t.sub L).big with
  | true => rw [h1, h2] at h; cases h
  | false =>
   cases h3 : L.any (Zms v (t.sub L)) with
   | true => rw [h1, h2, h3] at h; cases h
   | false => exact ⟨rfl, rfl, rfl, rfl⟩
theorem bindP_bad {L : SB} {v : ByteArray} {t : ST} (h : (ZfX L v t).1 ≠ 0) : (ZfX L v t).2 = [] := by
 unfold ZfX at h ⊢
 cases h1 : (t.sub L).occ v with
 | true => rfl
 | false =>
  cases h2 : (t.sub L).big with
  | true => rfl
  | false =>
   cases h3 : L.any (Zms v (t.sub L)) with
   | true => rfl
   | false => rw [h1, h2, h3] at h; exact absurd rfl h

abbrev SP := List (ST × ST)
def toP (p : ST × ST) : Zl := Zl.mk p.1.ty p.2.ty
def stk (T : SP) : List Zl := T.reverse.map toP
theorem ZkV (p : ST × ST) (T : SP) : stk (p :: T) = stk T ++ [toP p] := by simp [stk]
theorem Zqp (T : SP) : (stk T).length = T.length := by simp [stk]
theorem ZzM {α : Type} (S : List α) (q : α) (h : S.length ≤ 1000000000) : ixI (S ++ [q]) (IntKind.i64.wrap ((((S ++ [q]).length : Nat) : Int) - 1)) = some q := by
 rw [List.length_append, List.length_cons, List.length_nil, w64 (by omega) (by omega), show ((S.length + (0 + 1) : Nat) : Int) - 1 = ((S.length : Nat) : Int) from by omega, Zld]
 simp
theorem Zzt {α : Type} (S : List α) (q : α) (h : S.length ≤ 1000000000) : slL (S ++ [q]) ((0 : Nat) : Int) (IntKind.i64.wrap ((((S ++ [q]).length : Nat) : Int) - 1)) = some S := by
 rw [List.length_append, List.length_cons, List.length_nil, w64 (by omega) (by omega), show ((S.length + (0 + 1) : Nat) : Int) - 1 = ((S.length : Nat) : Int) from by omega]
 unfold slL
 rw [if_pos ⟨by omega, by omega, by simp; omega⟩]
 simp
def Zi3 (L : SB) (S : List Zl) (A B : Za) : Option (Int × Zu × List Zl) :=
 if (((A.fOp == 1) && (B.fOp == 1)) && (A.fName.toList == B.fName.toList)) = true then Zp 0 (atL 0 L) (L.map toB) S
 else if (A.fOp == 1) = true then ZaE ⟨L.map toB, atL 0 L⟩ A.fName B >>= fun r => Zp r.1 r.2.fat r.2.flist S
 else if (B.fOp == 1) = true then ZaE ⟨L.map toB, atL 0 L⟩ B.fName A >>= fun r => Zp r.1 r.2.fat r.2.flist S
 else if (((A.fOp == 2) && (B.fOp == 2)) && (A.fName.toList == B.fName.toList)) = true then Zp 0 (atL 0 L) (L.map toB) S
 else if ((A.fOp == 3) && (B.fOp == 3)) = true then
  (ixI A.fKids 1) >>= fun x1 => (ixI B.fKids 1) >>= fun y1 => (ixI A.fKids 0) >>= fun x0 => (ixI B.fKids 0) >>= fun y0 =>
  Z4 ((S.length + ([(Zl.mk x1 y1), (Zl.mk x0 y0)]).length) * 144 ≤ 140737488355328) >>= fun _ =>
  Zp 0 (atL 0 L) (L.map toB) (S ++ ([(Zl.mk x1 y1), (Zl.mk x0 y0)]))
 else Zp 22 (atL 0 L) (L.map toB) S
theorem ZtS (L : SB) (T : SP) (a b : ST) (h : T.length ≤ 1000000000) : ZB (atL 0 L) (L.map toB) (stk ((a, b) :: T)) = Zi3 L (stk T) (a.res L).ty (b.res L).ty := by
 have hs : (stk T).length ≤ 1000000000 := by rw [Zqp]; exact h
 rw [ZkV, ZB, ZzM _ _ hs, Zzt _ _ hs, decide_eq_true (by simp <;> omega), ifT, Zn]
 show (ZaP ⟨L.map toB, atL 0 L⟩ a.ty >>= _) = _
 rw [ZBS, Zn, Zn]
 show (ZaP ⟨L.map toB, atL 0 L⟩ b.ty >>= _) = _
 rw [ZBS]; rfl
def ZkE (L : SB) (S : List Zl) (A B : Za) : Option (List Ze × Int) :=
 if (((A.fOp == 1) && (B.fOp == 1)) && (A.fName.toList == B.fName.toList)) = true then Zs (L.map toB) 0 S
 else if (A.fOp == 1) = true then Za8 (L.map toB) A.fName B >>= fun r => Zs r.1 r.2 S
 else if (B.fOp == 1) = true then Za8 (L.map toB) B.fName A >>= fun r => Zs r.1 r.2 S
 else if (((A.fOp == 2) && (B.fOp == 2)) && (A.fName.toList == B.fName.toList)) = true then Zs (L.map toB) 0 S
 else if ((A.fOp == 3) && (B.fOp == 3)) = true then
  (ixI A.fKids 1) >>= fun x1 => (ixI B.fKids 1) >>= fun y1 => (ixI A.fKids 0) >>= fun x0 => (ixI B.fKids 0) >>= fun y0 =>
  Z4 ((S.length + ([(Zl.mk x1 y1), (Zl.mk x0 y0)]).length) * 144 ≤ 140737488355328) >>= fun _ =>
  Zs (L.map toB) 0 (S ++ ([(Zl.mk x1 y1), (Zl.mk x0 y0)]))
 else Zs (L.map toB) 22 S
theorem ZCk (L : SB) (T : SP) (a b : ST) (h : T.length ≤ 1000000000) : Zs (L.map toB) 0 (stk ((a, b) :: T)) = ZkE L (stk T) (a.res L).ty (b.res L).ty := by
 have hs : (stk T).length ≤ 1000000000 := by rw [Zqp]; exact h
 rw [ZkV, Zs, ZzM _ _ hs, Zzt _ _ hs, decide_eq_true (by simp <;> omega)]
 show ((some (toP (a, b))) >>= _) = _
 rw [Zn]
 show (Zbi (L.map toB) a.ty >>= _) = _
 rw [ZB0, Zn, Zn]
 show (Zbi (L.map toB) b.ty >>= _) = _
 rw [ZB0]; rfl
theorem ZGu (s : List Ze) (e : Int) (he : e ≠ 0) (S : List Zl) : Zs s e S = some ([], e) := by
 have h1 : (e == 0) = false := by rw [beq_eq_false_iff_ne]; exact he
 have h2 : (e != 0) = true := by rw [bne, h1]; rfl
 rw [Zs, h1, Bool.and_false, ifF, h2, ifT]
theorem Zzl (e : Int) (he : e ≠ 0) (at_ : List (ByteArray × Int)) (l : List Ze) (S : List Zl) : Zp e at_ l S = some (e, ⟨[], []⟩, S) := by
 have h1 : (e == 0) = false := by rw [beq_eq_false_iff_ne]; exact he
 have h2 : (e != 0) = true := by rw [bne, h1]; rfl
 rw [Zp, h2, ifT]
theorem ZA2 (at_ : List (ByteArray × Int)) (l : List Ze) (S : List Zl) : Zp 0 at_ l S = ZB at_ l S := by
 rw [Zp]; rfl
def HOk (L : SB) (h0 : Nat) : SP → Prop
 | [] => True
 | p :: T => (T.length + 1 ≤ h0 ∨ (p.1.sub L).dep + (T.length + 1) ≤ 200 + h0) ∧ HOk L h0 T
theorem ZBm (t : ST) : 1 ≤ t.dep := by cases t <;> simp [ST.dep]
theorem Zxn {L : SB} {h0 : Nat} : ∀ {T : SP}, HOk L h0 T → T.length ≤ h0 + 200
 | [], _ => Nat.zero_le _
 | p :: T, h => by have := ZBm (p.1.sub L); have h := h.1; rw [List.length_cons]; omega
theorem Ztl {L : SB} {h0 : Nat} : ∀ {T : SP}, T.length ≤ h0 → HOk L h0 T
 | [], _ => trivial
 | p :: T, h => by rw [List.length_cons] at h; exact ⟨.inl h, Ztl (by omega)⟩
structure Ans (V : List ByteArray) (L : SB) (T : SP) (e : Int) (L' : SB) : Prop where
 bad : e ≠ 0 → L' = []
 good : Zgg L'
 idem : ZrB L'
 ext : e = 0 → ∀ t : ST, (t.sub L).sub L' = t.sub L'
 eqs : e = 0 → ∀ p ∈ T, p.1.sub L' = p.2.sub L'
 len : L'.length ≤ 1000000000
 err : e = 0 ∨ e = 3 ∨ e = 22 ∨ e = 23
structure Inv (V : List ByteArray) (L : SB) (T : SP) (h0 : Nat) : Prop where
 good : Zgg L
 idem : ZrB L
 vin : Vin V L
 tgood : ∀ p ∈ T, p.1.good ∧ p.2.good
 tin : ∀ p ∈ T, ∀ y, (p.1.occ y = true ∨ p.2.occ y = true) → y ∈ V
 vok : ∀ y ∈ V, Zmb y = true ∧ y.size ≤ 1048576
 hok : HOk L h0 T
 top : h0 + 200 * unb V L ≤ 500000000
 len : L.length + unb V L ≤ 500000000
def tot (L : SB) : SP → Nat
 | [] => 0
 | p :: T => (p.1.sub L).nod + tot L T
theorem Ans.nil {V : List ByteArray} {L : SB} {T : SP} {e : Int} (he : e = 3 ∨ e = 22 ∨ e = 23) : Ans V L T e [] :=
 ⟨fun _ => rfl, fun p hp => absurd hp List.not_mem_nil, fun p hp => absurd hp List.not_mem_nil, fun h => by rcases he with he | he | he <;> (rw [he] at h; cases h), fun h => by rcases he with he | he | he <;> (rw [he] at h; cases h), by simp, .inr he⟩
def Zoo (V : List ByteArray) (L : SB) (T : SP) (n : Option (Int × Zu × List Zl)) (r : Option (List Ze × Int)) : Prop :=
 ∃ e L' s' S', n = some (e, s', S') ∧ s'.flist = L'.map toB ∧ r = some (L'.map toB, e) ∧ Ans V L T e L'
theorem Zoo.err {V : List ByteArray} {L M : SB} {T : SP} {e : Int} (he : e = 3 ∨ e = 22 ∨ e = 23) {at_ : List (ByteArray × Int)} {l : List Ze} {l2 : List Ze} {S S2 : List Zl} : Zoo V L T (Zp e at_ l S) (Zs l2 e S2) := by
 have h0 : e ≠ 0 := by rcases he with he | he | he <;> (rw [he]; decide)
 rw [Zzl e h0, ZGu _ e h0]
 exact ⟨e, [], _, _, rfl, rfl, rfl, Ans.nil he⟩
theorem Zx1 (L : SB) (v : ByteArray) (t : ST) : (ZfX L v t).1 = 0 ∨ (ZfX L v t).1 = 3 ∨ (ZfX L v t).1 = 22 ∨ (ZfX L v t).1 = 23 := by
 unfold ZfX
 split
 ·simp
 ·split
  ·simp
  ·split <;> simp
theorem Zyc {V : List ByteArray} {L : SB} {T : SP} {h0 : Nat} {p : ST × ST} (hI : Inv V L (p :: T) h0) {v : ByteArray} {t : ST} (hv : lk v L = none) (hvV : v ∈ V) (ht : t.good) (htV : ∀ y, t.occ y = true → y ∈ V)
  (hp : (p.1.sub L = .v v ∧ p.2.sub L = t.sub L) ∨ (p.2.sub L = .v v ∧ p.1.sub L = t.sub L))
  (rec_ : ∀ (L1 : SB) (h1 : Nat), unb V L1 < unb V L → Inv V L1 T h1 → Zoo V L1 T (ZB (atL 0 L1) (L1.map toB) (stk T)) (Zs (L1.map toB) 0 (stk T))) :
  Zoo V L (p :: T) (ZaE ⟨L.map toB, atL 0 L⟩ v t.ty >>= fun r => Zp r.1 r.2.fat r.2.flist (stk T)) (Za8 (L.map toB) v t.ty >>= fun r => Zs r.1 r.2 (stk T)) := by
 have hlen : L.length ≤ 1000000000 := by have := hI.len; omega
 obtain ⟨s', h1, h2⟩ := Zvw L hI.good v (hI.vok v hvV) hv t ht hlen
 rw [h1, Zn, ZDv L hI.good v (hI.vok v hvV) t ht hlen, Zn]
 by_cases he : (ZfX L v t).1 = 0
 ·obtain ⟨b1, b2, b3, b4⟩ := ZyK he
  rw [h2 he, b4, he, ZA2]
  have hT := Zxn hI.hok.2
  have hun := ZBc (u := t.sub L) hvV hv
  have hI1 : Inv V (ZnG L v (t.sub L)) T (h0 + 200) :=
   ⟨ZzE hI.good (hI.vok v hvV) ht b2 b3, ZAT hI.idem hv b1, ZBN hI.vin htV, fun q hq => hI.tgood q (List.mem_cons_of_mem _ hq), fun q hq => hI.tin q (List.mem_cons_of_mem _ hq), hI.vok, Ztl hT,
    by have := hI.top; omega, by have := hI.len; have e : (ZnG L v (t.sub L)).length = L.length + 1 := by simp [ZnG]
                                 omega⟩
  obtain ⟨e, L', s1, S1, g1, g2, g3, A⟩ := rec_ _ _ hun hI1
  refine ⟨e, L', s1, S1, g1, g2, g3, ⟨A.bad, A.good, A.idem, ?_, ?_, A.len, A.err⟩⟩
  ·intro h0 w
   have h3 := A.ext h0
   have hx : (ST.v v).sub L' = (t.sub L).sub L' := by
    have := h3 (.v v)
    rw [ST.sub, ZpP, hv] at this
    simp only [if_true, Option.getD_some] at this
    exact this.symm
   rw [← Zw9 hx (w.sub L), ← ZwR, h3]
  ·intro h0 q hq
   rcases List.mem_cons.1 hq with rfl | hq
   ·have h3 := A.ext h0
    have hx : (ST.v v).sub L' = (t.sub L).sub L' := by
     have := h3 (.v v)
     rw [ST.sub, ZpP, hv] at this
     simp only [if_true, Option.getD_some] at this
     exact this.symm
    have hw : ∀ w : ST, (w.sub L).sub L' = w.sub L' := fun w => by rw [← Zw9 hx (w.sub L), ← ZwR, h3]
    rcases hp with ⟨p1, p2⟩ | ⟨p1, p2⟩
    ·rw [← hw q.1, ← hw q.2, p1, p2, hx]
    ·rw [← hw q.1, ← hw q.2, p1, p2, hx]
   ·exact A.eqs h0 q hq
 ·have h3 := (Zx1 L v t).resolve_left he
  exact Zoo.err (M := L) h3
theorem Zoo.back {V : List ByteArray} {L : SB} {T T' : SP} {n : Option (Int × Zu × List Zl)} {r : Option (List Ze × Int)} (h : Zoo V L T' n r) (hq : ∀ L' : SB, (∀ t : ST, (t.sub L).sub L' = t.sub L') → (∀ p ∈ T', p.1.sub L' = p.2.sub L') → ∀ p ∈ T, p.1.sub L' = p.2.sub L') : Zoo V L T n r := by
 obtain ⟨e, L', s', S', h1, h2, h3, A⟩ := h
 exact ⟨e, L', s', S', h1, h2, h3, ⟨A.bad, A.good, A.idem, A.ext, fun h0 => hq L' (A.ext h0) (A.eqs h0), A.len, A.err⟩⟩
theorem Zxm {p : Prop} [Decidable p] {α : Type} (x y : α) : (if decide p = true then x else y) = if p then x else y := by by_cases h : p <;> simp [h]
theorem ZvR (L : SB) (S : List Zl) (x : ByteArray) : Zi3 L S (ST.v x).ty (ST.v x).ty = Zp 0 (atL 0 L) (L.map toB) S := by
 unfold Zi3
 show (if (x.toList == x.toList) = true then _ else _) = _
 rw [ZkM, decide_eq_true rfl, ifT]
theorem Zro (L : SB) (S : List Zl) (x : ByteArray) (t : ST) (h : ∀ y, t = .v y → x ≠ y) : Zi3 L S (ST.v x).ty t.ty = (ZaE ⟨L.map toB, atL 0 L⟩ x t.ty >>= fun r => Zp r.1 r.2.fat r.2.flist S) := by
 unfold Zi3
 cases t with
 | v y =>
  show (if (x.toList == y.toList) = true then _ else _) = _
  rw [ZkM, decide_eq_false (h y rfl), ifF]; rfl
 | k s => rfl
 | a f z => rfl
theorem ZuK (L : SB) (S : List Zl) (x : ByteArray) (t : ST) (h : t.isv = false) : Zi3 L S t.ty (ST.v x).ty = (ZaE ⟨L.map toB, atL 0 L⟩ x t.ty >>= fun r => Zp r.1 r.2.fat r.2.flist S) := by
 unfold Zi3
 cases t with
 | v y => cases h
 | k s => rfl
 | a f z => rfl
theorem Zuq (L : SB) (S : List Zl) (x y : ByteArray) : Zi3 L S (ST.k x).ty (ST.k y).ty = if x = y then Zp 0 (atL 0 L) (L.map toB) S else Zp 22 (atL 0 L) (L.map toB) S := by
 unfold Zi3
 show (if (x.toList == y.toList) = true then _ else _) = _
 rw [ZkM, Zxm]; rfl
theorem ZzB (L : SB) (S : List Zl) (x : ByteArray) (f z : ST) : Zi3 L S (ST.k x).ty (ST.a f z).ty = Zp 22 (atL 0 L) (L.map toB) S := rfl
theorem ZAm (L : SB) (S : List Zl) (x : ByteArray) (f z : ST) : Zi3 L S (ST.a f z).ty (ST.k x).ty = Zp 22 (atL 0 L) (L.map toB) S := rfl
theorem ZvY (L : SB) (S : List Zl) (x : ByteArray) : ZkE L S (ST.v x).ty (ST.v x).ty = Zs (L.map toB) 0 S := by
 unfold ZkE
 show (if (x.toList == x.toList) = true then _ else _) = _
 rw [ZkM, decide_eq_true rfl, ifT]
theorem Zz6 (L : SB) (S : List Zl) (x : ByteArray) (t : ST) (h : ∀ y, t = .v y → x ≠ y) : ZkE L S (ST.v x).ty t.ty = (Za8 (L.map toB) x t.ty >>= fun r => Zs r.1 r.2 S) := by
 unfold ZkE
 cases t with
 | v y =>
  show (if (x.toList == y.toList) = true then _ else _) = _
  rw [ZkM, decide_eq_false (h y rfl), ifF]; rfl
 | k s => rfl
 | a f z => rfl
theorem Zut (L : SB) (S : List Zl) (x : ByteArray) (t : ST) (h : t.isv = false) : ZkE L S t.ty (ST.v x).ty = (Za8 (L.map toB) x t.ty >>= fun r => Zs r.1 r.2 S) := by
 unfold ZkE
 cases t with
 | v y => cases h
 | k s => rfl
 | a f z => rfl
theorem ZyY (L : SB) (S : List Zl) (x y : ByteArray) : ZkE L S (ST.k x).ty (ST.k y).ty = if x = y then Zs (L.map toB) 0 S else Zs (L.map toB) 22 S := by
 unfold ZkE
 show (if (x.toList == y.toList) = true then _ else _) = _
 rw [ZkM, Zxm]; rfl
theorem Zzz (L : SB) (S : List Zl) (x : ByteArray) (f z : ST) : ZkE L S (ST.k x).ty (ST.a f z).ty = Zs (L.map toB) 22 S := rfl
theorem ZAp (L : SB) (S : List Zl) (x : ByteArray) (f z : ST) : ZkE L S (ST.a f z).ty (ST.k x).ty = Zs (L.map toB) 22 S := rfl
theorem ZAe (L : SB) (T : SP) (f z g w : ST) (h : T.length ≤ 600000000) : Zi3 L (stk T) (ST.a f z).ty (ST.a g w).ty = Zp 0 (atL 0 L) (L.map toB) (stk ((f, g) :: (z, w) :: T)) := by
 unfold Zi3
 show (Z4 _ >>= fun _ => Zp 0 (atL 0 L) (L.map toB) (stk T ++ [toP (z, w), toP (f, g)])) = _
 rw [Zde _ (by rw [Zqp]; simp only [List.length_cons, List.length_nil]; omega), ZkV, ZkV, List.append_assoc]; rfl
theorem ZyV (L : SB) (T : SP) (f z g w : ST) (h : T.length ≤ 600000000) : ZkE L (stk T) (ST.a f z).ty (ST.a g w).ty = Zs (L.map toB) 0 (stk ((f, g) :: (z, w) :: T)) := by
 unfold ZkE
 show (Z4 _ >>= fun _ => Zs (L.map toB) 0 (stk T ++ [toP (z, w), toP (f, g)])) = _
 rw [Zde _ (by rw [Zqp]; simp only [List.length_cons, List.length_nil]; omega), ZkV, ZkV, List.append_assoc]; rfl
theorem ZsO {f x : ST} (h : (ST.a f x).good) : f.good ∧ x.good := by
 have h1 := h.1
 have h2 := Zdg.1 h.2
 rw [ST.nms, Bool.and_eq_true] at h1
 rw [ST.nod, ST.dep] at h2
 exact ⟨⟨h1.1, Zdg.2 (by omega)⟩, ⟨h1.2, Zdg.2 (by omega)⟩⟩
theorem Zwi (V : List ByteArray) : ∀ (m : Nat) (n : Nat) (L : SB) (T : SP) (h0 : Nat), unb V L = m → tot L T = n → Inv V L T h0 →
  Zoo V L T (ZB (atL 0 L) (L.map toB) (stk T)) (Zs (L.map toB) 0 (stk T)) := by
 intro m
 induction m using Nat.strongRecOn with
 | _ m ihm =>
 intro n
 induction n using Nat.strongRecOn with
 | _ n ihn =>
 intro L T h0 hm hn hI
 have rec_ : ∀ (T : SP) (L1 : SB) (h1 : Nat), unb V L1 < unb V L → Inv V L1 T h1 → Zoo V L1 T (ZB (atL 0 L1) (L1.map toB) (stk T)) (Zs (L1.map toB) 0 (stk T)) :=
  fun T L1 h1 hu hi => ihm _ (hm ▸ hu) _ L1 T h1 rfl rfl hi
 match T, hn, hI with
 | [], hn, hI =>
  refine ⟨0, L, ⟨L.map toB, atL 0 L⟩, [], ?_, rfl, ?_, ⟨fun h => absurd rfl h, hI.good, hI.idem, fun _ t => Zua hI.idem t, fun _ p hp => absurd hp List.not_mem_nil, by have := hI.len; omega, .inl rfl⟩⟩
  ·show ZB _ _ [] = _; rw [ZB]; rfl
  ·show Zs _ 0 [] = _; rw [Zs]; rfl
 | (a, b) :: T, hn, hI =>
  have hT : T.length ≤ h0 + 200 := Zxn hI.hok.2
  have hT2 : T.length ≤ 1000000000 := by have := hI.top; omega
  rw [ZtS L T a b hT2, ZCk L T a b hT2]
  have hab := hI.tgood _ (List.mem_cons_self ..)
  have ga := Zui hI.good hab.1
  have gb := Zui hI.good hab.2
  have sa := Zxb hI.idem a
  have sb := Zxb hI.idem b
  have hin := hI.tin _ (List.mem_cons_self ..)
  have va : ∀ y, (a.res L).occ y = true → y ∈ V := fun y hy => by
   rcases ZwD hy with h | ⟨p, hp, h⟩
   ·exact hin y (.inl h)
   ·exact hI.vin p hp y h
  have vb : ∀ y, (b.res L).occ y = true → y ∈ V := fun y hy => by
   rcases ZwD hy with h | ⟨p, hp, h⟩
   ·exact hin y (.inr h)
   ·exact hI.vin p hp y h
  have hI0 : Inv V L T h0 := ⟨hI.good, hI.idem, hI.vin, fun q hq => hI.tgood q (List.mem_cons_of_mem _ hq), fun q hq => hI.tin q (List.mem_cons_of_mem _ hq), hI.vok, hI.hok.2, hI.top, hI.len⟩
  have htot : tot L T < n := by rw [← hn]; show _ < (a.sub L).nod + tot L T; have := ZBF (a.sub L); omega
  have skip : a.sub L = b.sub L → Zoo V L ((a, b) :: T) (Zp 0 (atL 0 L) (L.map toB) (stk T)) (Zs (L.map toB) 0 (stk T)) := fun heq => by
   rw [ZA2]
   refine (ihn _ htot L T h0 hm rfl hI0).back fun L' h1 h2 p hp => ?_
   rcases List.mem_cons.1 hp with rfl | hp
   ·show a.sub L' = b.sub L'; rw [← h1 a, heq, h1]
   ·exact h2 p hp
  generalize ha' : a.res L = A at *
  generalize hb' : b.res L = B at *
  have bnd : ∀ (x : ByteArray) (t : ST), lk x L = none → x ∈ V → t.good → (∀ y, t.occ y = true → y ∈ V) → ((a.sub L = .v x ∧ b.sub L = t.sub L) ∨ (b.sub L = .v x ∧ a.sub L = t.sub L)) →
    Zoo V L ((a, b) :: T) (ZaE ⟨L.map toB, atL 0 L⟩ x t.ty >>= fun r => Zp r.1 r.2.fat r.2.flist (stk T)) (Za8 (L.map toB) x t.ty >>= fun r => Zs r.1 r.2 (stk T)) :=
   fun x t h1 h2 h3 h4 h5 => Zyc hI h1 h2 h3 h4 h5 (rec_ T)
  cases hA : A with
  | v x =>
   rw [hA] at ha' va sa
   have hx := Ztq hI.idem ha'
   have hxs : a.sub L = .v x := by rw [← sa, ST.sub, hx]; rfl
   have hxV := va x (by simp [ST.occ])
   by_cases hB : B = .v x
   ·rw [hB] at sb ⊢
    rw [ZvR, ZvY]
    exact skip (by rw [hxs, ← sb, ST.sub, hx]; rfl)
   ·have hne : ∀ y, B = .v y → x ≠ y := fun y hy e => hB (by rw [hy, e])
    rw [Zro _ _ _ _ hne, Zz6 _ _ _ _ hne]
    exact bnd x B hx hxV gb vb (.inl ⟨hxs, sb.symm⟩)
  | k s =>
   rw [hA] at ha' va sa ga
   cases hB : B with
   | v y =>
    rw [hB] at hb' vb sb
    have hy := Ztq hI.idem hb'
    have hys : b.sub L = .v y := by rw [← sb, ST.sub, hy]; rfl
    rw [ZuK _ _ _ _ rfl, Zut _ _ _ _ rfl]
    exact bnd y (.k s) hy (vb y (by simp [ST.occ])) ga va (.inr ⟨hys, sa.symm⟩)
   | k s2 =>
    rw [hB] at sb
    rw [Zuq, ZyY]
    by_cases hs : s = s2
    ·rw [if_pos hs, if_pos hs]
     exact skip (by rw [← sa, ← sb, hs])
    ·rw [if_neg hs, if_neg hs]
     exact Zoo.err (M := L) (.inr (.inl rfl))
   | a g w => rw [ZzB, Zzz]; exact Zoo.err (M := L) (.inr (.inl rfl))
  | a f z =>
   rw [hA] at ha' va sa ga
   cases hB : B with
   | v y =>
    rw [hB] at hb' vb sb
    have hy := Ztq hI.idem hb'
    have hys : b.sub L = .v y := by rw [← sb, ST.sub, hy]; rfl
    rw [ZuK _ _ _ _ rfl, Zut _ _ _ _ rfl]
    exact bnd y (.a f z) hy (vb y (by simp [ST.occ])) ga va (.inr ⟨hys, sa.symm⟩)
   | k s2 => rw [ZAm, ZAp]; exact Zoo.err (M := L) (.inr (.inl rfl))
   | a g w =>
    rw [hB] at hb' vb sb gb
    rw [ZAe _ _ _ _ _ _ (by have := hI.top; omega), ZyV _ _ _ _ _ _ (by have := hI.top; omega), ZA2]
    obtain ⟨gf, gz⟩ := ZsO ga
    obtain ⟨gg, gw⟩ := ZsO gb
    have hd := hI.hok.1
    rw [← sa] at hd
    have d0 := Zxt hI.good f
    have d1 := Zxt hI.good z
    have df := (Zdg.1 gf.2).2
    have dz := (Zdg.1 gz.2).2
    have hI1 : Inv V L ((f, g) :: (z, w) :: T) h0 := by
     refine ⟨hI.good, hI.idem, hI.vin, fun q hq => ?_, fun q hq y hy => ?_, hI.vok, ⟨?_, ?_, hI.hok.2⟩, hI.top, hI.len⟩
     ·rcases List.mem_cons.1 hq with rfl | hq
      ·exact ⟨gf, gg⟩
      ·rcases List.mem_cons.1 hq with rfl | hq
       ·exact ⟨gz, gw⟩
       ·exact hI.tgood q (List.mem_cons_of_mem _ hq)
     ·rcases List.mem_cons.1 hq with rfl | hq
      ·exact hy.elim (fun h => va y (by simp [ST.occ, h])) (fun h => vb y (by simp [ST.occ, h]))
      ·rcases List.mem_cons.1 hq with rfl | hq
       ·exact hy.elim (fun h => va y (by simp [ST.occ, h])) (fun h => vb y (by simp [ST.occ, h]))
       ·exact hI.tin q (List.mem_cons_of_mem _ hq) y hy
     ·rw [ST.sub, ST.dep] at hd
      show ((z, w) :: T).length + 1 ≤ h0 ∨ (f.sub L).dep + (((z, w) :: T).length + 1) ≤ 200 + h0
      rw [List.length_cons]
      omega
     ·rw [ST.sub, ST.dep] at hd
      show T.length + 1 ≤ h0 ∨ (z.sub L).dep + (T.length + 1) ≤ 200 + h0
      omega
    refine (ihn _ ?_ L _ h0 hm rfl hI1).back fun L' h1 h2 p hp => ?_
    ·rw [← hn]
     show (f.sub L).nod + ((z.sub L).nod + tot L T) < (a.sub L).nod + tot L T
     rw [← sa, ST.sub, ST.nod]; omega
    ·rcases List.mem_cons.1 hp with rfl | hp
     ·show a.sub L' = b.sub L'
      have e1 := h2 (f, g) (by simp)
      have e2 := h2 (z, w) (by simp)
      rw [← h1 a, ← h1 b, ← sa, ← sb, h1, h1, ST.sub, ST.sub]
      show ST.a _ _ = ST.a _ _
      rw [show f.sub L' = g.sub L' from e1, show z.sub L' = w.sub L' from e2]
     ·exact h2 p (by simp [hp])

def Zog (p : Zl) : Bool := Zoy p.e0 && Zoy p.e1
def Zpy (l : List Zl) : Nat := (l.map fun p => p.e0.vol + p.e1.vol).sum
theorem Zvq {l : List Zl} {p : Zl} (h : p ∈ l) : p.e0.vol + p.e1.vol ≤ Zpy l := by
 induction l with
 | nil => cases h
 | cons q l ih =>
  unfold Zpy at *
  rw [List.map_cons, List.sum_cons]
  rcases List.mem_cons.1 h with rfl | h
  ·omega
  ·have := ih h; omega
theorem ZsJ {α : Type} {l : List α} {k : Nat} {x : α} (h : l[k]? = some x) : l.take (k + 1) = l.take k ++ [x] := by
 rw [List.take_add_one, h]; rfl
theorem ZuB {α : Type} {l : List α} {k : Nat} {x : α} (h : l[k]? = some x) : (l.drop k).reverse = (l.drop (k + 1)).reverse ++ [x] := by
 obtain ⟨hk, rfl⟩ := List.getElem?_eq_some_iff.1 h
 rw [List.drop_eq_getElem_cons hk, List.reverse_cons]
def ZCZ (pairs : List Zl) : Option (List Ze × Int) :=
 ZcS (Zu.mk ([] : List Ze) ([] : List (ByteArray × Int))) pairs.reverse >>= fun ZpG => Zcy ZpG.2.1.flist >>= fun Zvl => some (Zvl, ZpG.1)
theorem ZxE (pairs : List Zl) (hl : pairs.length ≤ 1000000000) (hv : ∀ p ∈ pairs, p.e0.vol ≤ 1000000000 ∧ p.e1.vol ≤ 1000000000) : ∀ k : Nat, k ≤ pairs.length →
  ZdE pairs (((k : Nat) : Int) - 1) (pairs.drop k).reverse = if (pairs.take k).all Zog = true then ZCZ pairs else some ([], 1)
 | 0, _ => by rw [ZdE, decide_eq_false (by omega), ifF]; rfl
 | k + 1, hk => by
  have hx : pairs[k]? = some pairs[k] := List.getElem?_eq_getElem hk
  have hm := hv _ (List.mem_of_getElem? hx)
  generalize pairs[k] = x at hx hm
  rw [show ((k + 1 : Nat) : Int) - 1 = ((k : Nat) : Int) from by omega, ZdE, decide_eq_true (Int.natCast_nonneg k), ifT, Zld, hx, Zn, ZBQ _ hm.1, Zn, ZsJ hx, List.all_append]
  have e1 : ([x].all Zog) = Zog x := by simp
  have ih := ZxE pairs hl hv k (by omega)
  rw [e1]; unfold Zog at ih ⊢
  cases h0 : Zoy x.e0 with
  | false => rw [Bool.false_and, Bool.and_false]; rfl
  | true =>
   show ((some x >>= fun x93 => ZdV x93.e1 >>= fun r94 => some (!r94)) >>= _) = _
   rw [Zn, ZBQ _ hm.2, Zn, Zn]
   cases h1 : Zoy x.e1 with
   | false => rw [Bool.and_false, Bool.and_false]; rfl
   | true =>
    rw [Bool.true_and, Bool.and_true, Bool.not_true, ifF, Zn, Zde _ (by simp; omega), ← ZuB hx, w64 (by omega) (by omega), ih]
theorem ZBX (pairs : List Zl) (hl : pairs.length ≤ 1000000000) (hv : ∀ p ∈ pairs, p.e0.vol ≤ 1000000000 ∧ p.e1.vol ≤ 1000000000) : Zfc pairs = if pairs.all Zog = true then ZCZ pairs else some ([], 1) := by
 have := ZxE pairs hl hv pairs.length (Nat.le_refl _)
 rw [List.drop_length, List.take_length] at this
 rw [Zfc, w64 (by omega) (by omega)]
 exact this
theorem ZwI (pairs : List Zl) (hl : pairs.length ≤ 1000000000) (hv : ∀ p ∈ pairs, p.e0.vol ≤ 1000000000 ∧ p.e1.vol ≤ 1000000000) : ∀ k : Nat, k ≤ pairs.length →
  ZbR pairs (((k : Nat) : Int) - 1) (pairs.drop k).reverse = if (pairs.take k).all Zog = true then Zs [] 0 pairs.reverse else some ([], 1)
 | 0, _ => by rw [ZbR, decide_eq_false (by omega), ifF]; rfl
 | k + 1, hk => by
  have hx : pairs[k]? = some pairs[k] := List.getElem?_eq_getElem hk
  have hm := hv _ (List.mem_of_getElem? hx)
  generalize pairs[k] = x at hx hm
  rw [show ((k + 1 : Nat) : Int) - 1 = ((k : Nat) : Int) from by omega, ZbR, decide_eq_true (Int.natCast_nonneg k), ifT, Zld, hx, Zn, ZB1 _ hm.1, Zn, ZsJ hx, List.all_append]
  have e1 : ([x].all Zog) = Zog x := by simp
  have ih := ZwI pairs hl hv k (by omega)
  rw [e1]; unfold Zog at ih ⊢
  cases h0 : Zoy x.e0 with
  | false => rw [Bool.false_and, Bool.and_false]; rfl
  | true =>
   show ((some x >>= fun x93 => Zce x93.e1 >>= fun r94 => some (!r94)) >>= _) = _
   rw [Zn, ZB1 _ hm.2, Zn, Zn]
   cases h1 : Zoy x.e1 with
   | false => rw [Bool.and_false, Bool.and_false]; rfl
   | true =>
    rw [Bool.true_and, Bool.and_true, Bool.not_true, ifF, Zn, Zde _ (by simp; omega), ← ZuB hx, w64 (by omega) (by omega), ih]
theorem ZER (pairs : List Zl) (hl : pairs.length ≤ 1000000000) (hv : ∀ p ∈ pairs, p.e0.vol ≤ 1000000000 ∧ p.e1.vol ≤ 1000000000) : ZcN pairs = if pairs.all Zog = true then Zs [] 0 pairs.reverse else some ([], 1) := by
 have := ZwI pairs hl hv pairs.length (Nat.le_refl _)
 rw [List.drop_length, List.take_length] at this
 rw [ZcN, w64 (by omega) (by omega)]
 exact this
theorem Zw0 (l : List Ze) : ∀ (L A : SB) (k : Nat), A.length + L.length ≤ 1000000000 → ZcM (A.map toB) l k (L.map toB) = some ((A ++ L).map toB)
 | [], A, k, _ => by rw [List.map_nil, ZcM, List.append_nil]
 | p :: L, A, k, h => by
  rw [List.length_cons] at h
  have ih := Zw0 l L (A ++ [p]) (k + 1) (by simp; omega)
  rw [List.map_cons, ZcM]
  show (Zcn p.2.ty >>= _) = _
  rw [ZyR, Zn, Zde _ (by simp; omega)]
  have e : A.map toB ++ [Ze.mk (toB p).fName p.2.ty] = (A ++ [p]).map toB := by simp [toB]
  rw [e, ih, List.append_assoc]; rfl
theorem Zo9 (L : SB) (h : L.length ≤ 1000000000) : Zcy (L.map toB) = some (L.map toB) := by
 have := Zw0 (L.map toB) L [] 0 (by simpa using h)
 rw [Zcy]; exact this
theorem ZEQ : ∀ {pairs : List Zl}, (∀ p ∈ pairs, p.e0.vol ≤ 1048576 ∧ p.e1.vol ≤ 1048576) → pairs.all Zog = true → ∃ P : SP, P.map toP = pairs ∧ ∀ p ∈ P, p.1.good ∧ p.2.good
 | [], _, _ => ⟨[], rfl, fun p hp => absurd hp List.not_mem_nil⟩
 | ⟨x, y⟩ :: l, hv, h => by
  rw [List.all_cons, Bool.and_eq_true] at h
  have h1 := h.1
  unfold Zog at h1
  rw [Bool.and_eq_true] at h1
  have hx := hv _ (List.mem_cons_self ..)
  obtain ⟨a, rfl, ha⟩ := ZyO hx.1 h1.1
  obtain ⟨b, rfl, hb⟩ := ZyO hx.2 h1.2
  obtain ⟨P, rfl, hP⟩ := ZEQ (fun p hp => hv p (List.mem_cons_of_mem _ hp)) h.2
  exact ⟨(a, b) :: P, rfl, fun p hp => by
   rcases List.mem_cons.1 hp with rfl | hp
   ·exact ⟨ha, hb⟩
   ·exact hP p hp⟩
theorem Zxo {t : ST} : t.nms = true → ∀ {y : ByteArray}, t.occ y = true → Zmb y = true ∧ y.size ≤ 1048576 := by
 induction t with
 | v s => intro h y hy; simp only [ST.nms, Bool.and_eq_true, decide_eq_true_eq] at h; simp only [ST.occ, decide_eq_true_eq] at hy; subst hy; exact h
 | k s => intro h y hy; cases hy
 | a f x ihf ihx =>
  intro h y hy
  simp only [ST.nms, Bool.and_eq_true] at h
  simp only [ST.occ, Bool.or_eq_true] at hy
  exact hy.elim (ihf h.1) (ihx h.2)
def ZnY (P : SP) : List ByteArray := P.flatMap fun p => p.1.fr [] ++ p.2.fr []
theorem Zsv : ∀ P : SP, (ZnY P).length ≤ Zpy (P.map toP)
 | [] => Nat.le_refl _
 | p :: P => by
  have ih := Zsv P
  have h1 := ZtN p.1 []
  have h2 := ZtN p.2 []
  have h3 := Zot p.1.ty
  have h4 := Zot p.2.ty
  rw [Zkx] at h3 h4
  unfold ZnY Zpy at *
  rw [List.flatMap_cons, List.map_cons, List.map_cons, List.sum_cons]
  simp only [List.length_append, List.length_nil] at *
  show _ ≤ p.1.ty.vol + p.2.ty.vol + _
  omega
theorem ZxL {P : SP} {p : ST × ST} (hp : p ∈ P) {y : ByteArray} (h : p.1.occ y = true ∨ p.2.occ y = true) : y ∈ ZnY P := by
 unfold ZnY
 rw [List.mem_flatMap]
 exact ⟨p, hp, List.mem_append.2 (h.imp (fun h => (Zm9 y _ []).2 (.inr h)) (fun h => (Zm9 y _ []).2 (.inr h)))⟩
theorem Zzp {P : SP} (hP : ∀ p ∈ P, p.1.good ∧ p.2.good) {y : ByteArray} (h : y ∈ ZnY P) : Zmb y = true ∧ y.size ≤ 1048576 := by
 unfold ZnY at h
 rw [List.mem_flatMap] at h
 obtain ⟨p, hp, h⟩ := h
 rcases List.mem_append.1 h with h | h
 ·exact Zxo (hP p hp).1.1 (((Zm9 y _ []).1 h).resolve_left (by simp))
 ·exact Zxo (hP p hp).2.1 (((Zm9 y _ []).1 h).resolve_left (by simp))
theorem Zzc (l : List Zl) : l.length ≤ Zpy l := by
 induction l with
 | nil => exact Nat.le_refl _
 | cons p l ih =>
  unfold Zpy at *
  rw [List.map_cons, List.sum_cons, List.length_cons]
  have := Zn7 p.e0
  omega
theorem ZqG (pairs : List Zl) (hv : Zpy pairs ≤ 1048576) : ∃ (e : Int) (L : SB), Zfc pairs = some (L.map toB, e) ∧ ZcN pairs = some (L.map toB, e) ∧ Zgg L ∧ ZrB L ∧ L.length ≤ 1000000000 ∧
  (e = 0 → ∃ P : SP, P.map toP = pairs ∧ (∀ p ∈ P, p.1.good ∧ p.2.good) ∧ ∀ p ∈ P, p.1.sub L = p.2.sub L) := by
 have hl := Zzc pairs
 have hm : ∀ p ∈ pairs, p.e0.vol ≤ 1048576 ∧ p.e1.vol ≤ 1048576 := fun p hp => by have := Zvq hp; omega
 rw [ZBX pairs (by omega) (fun p hp => by have := hm p hp; omega), ZER pairs (by omega) (fun p hp => by have := hm p hp; omega)]
 by_cases h : pairs.all Zog = true
 ·rw [if_pos h, if_pos h]
  obtain ⟨P, rfl, hP⟩ := ZEQ hm h
  have hV := Zsv P
  have hu : unb (ZnY P) [] ≤ (ZnY P).length := List.length_filter_le _ _
  have hI : Inv (ZnY P) [] P P.length :=
   ⟨fun p hp => absurd hp List.not_mem_nil, fun p hp => absurd hp List.not_mem_nil, fun p hp => absurd hp List.not_mem_nil, hP, fun p hp y hy => ZxL hp hy, fun y hy => Zzp hP hy, Ztl (Nat.le_refl _),
    by rw [List.length_map] at hl; omega, by rw [List.length_nil]; omega⟩
  obtain ⟨e, L, s', S', h1, h2, h3, A⟩ := Zwi (ZnY P) _ _ [] P P.length rfl rfl hI
  have hs : (P.map toP).reverse = stk P := by rw [stk, List.map_reverse]
  refine ⟨e, L, ?_, ?_, A.good, A.idem, A.len, fun h0 => ⟨P, rfl, hP, A.eqs h0⟩⟩
  ·unfold ZCZ
   rw [hs, ZcS]
   show (ZB (atL 0 []) (([] : SB).map toB) (stk P) >>= _) = _
   rw [h1, Zn]
   show (Zcy s'.flist >>= _) = _
   rw [h2, Zo9 L A.len]; rfl
  ·rw [hs]; exact h3
 ·rw [if_neg h, if_neg h]
  exact ⟨1, [], rfl, rfl, fun p hp => absurd hp List.not_mem_nil, fun p hp => absurd hp List.not_mem_nil, by simp, fun h => by cases h⟩
theorem ZpJ : Zam (Zk.mk []) (Zk.mk []) = some true := by
 rw [Zam]
 show ZaD 0 _ _ [] = _
 rw [ZaD]
theorem ZzG (s : ByteArray) : Zct [] s = some (-1) := by
 rw [Zct, Zcl]; rfl
theorem Zwj (t : ST) : ZaS t.ty t.ty [] [] = some true := by
 induction t with
 | v s =>
  rw [ST.ty, ZaS]
  show ((Zam (Zk.mk []) (Zk.mk []) >>= _) >>= _) = _
  rw [ZpJ, Zn, Zn]
  show (Zct [] s >>= fun r60 => Zct [] s >>= fun r61 => _) = _
  rw [ZzG, Zn, Zn]
  show some (true && (_ || (s.toList == s.toList))) = _
  rw [ZkM, decide_eq_true rfl, Bool.or_true]; rfl
 | k s =>
  rw [ST.ty, ZaS]
  show ((Zam (Zk.mk []) (Zk.mk []) >>= _) >>= _) = _
  rw [ZpJ, Zn, Zn]
  show (if (!(s.toList == s.toList)) = true then _ else ZaI [] [] _ _) = _
  rw [ZkM, decide_eq_true rfl, Bool.not_true, ifF, ZaI]
  show Z6 [] [] 0 _ _ [] = _
  rw [Z6]
 | a f x ihf ihx =>
  rw [ST.ty, ZaS]
  show ((Zam (Zk.mk []) (Zk.mk []) >>= _) >>= _) = _
  rw [ZpJ, Zn, Zn]
  show (if (!((ByteArray.mk #[]).toList == (ByteArray.mk #[]).toList)) = true then _ else ZaI [] [] _ _) = _
  rw [ZkM, decide_eq_true rfl, Bool.not_true, ifF, ZaI]
  show Z6 [] [] 0 _ _ [f.ty, x.ty] = _
  rw [Z6]
  show (some f.ty >>= _) = _
  rw [Zn, ihf, Zn]
  show Z6 [] [] (0 + 1) _ _ [x.ty] = _
  rw [Z6]
  show (some x.ty >>= _) = _
  rw [Zn, ihx, Zn]
  show Z6 [] [] (0 + 1 + 1) _ _ [] = _
  rw [Z6]
theorem ZrG (t : ST) (h : t.good) : Zca t.ty t.ty = some true := by
 rw [Zca, Ztj t h, Zn]
 show (((some 0) >>= _) >>= _) = _
 rw [Zn, Zn]
 show ((ZaS t.ty t.ty [] [] >>= _) >>= _) = _
 rw [Zwj]; rfl
theorem ZyD (M : SB) (hM : Zgg M) : ∀ (L A : SB) (k : Nat), A ++ L = M → k = A.length → ZbA (M.map toB) (M.map toB) k (L.map toB) = some true
 | [], A, k, _, _ => by rw [List.map_nil, ZbA]
 | p :: L, A, k, h, hk => by
  have hp : (M.map toB)[k]? = some (toB p) := by rw [← h]; exact ZFp hk.symm p L
  have hg := hM p (by rw [← h]; simp)
  rw [List.map_cons, ZbA, hp, Zn, ZkM, decide_eq_true rfl]
  show ((Zca p.2.ty p.2.ty >>= _) >>= _) = _
  rw [ZrG p.2 hg.1, Zn, Zn]
  exact ZyD M hM L (A ++ [p]) (k + 1) (by rw [← h]; simp) (by simp [hk])
theorem Zsk (L : SB) (hL : Zgg L) : ZbL (L.map toB) (L.map toB) = some true := by
 rw [ZbL]
 have : ((((L.map toB).length : Nat) : Int) != (((L.map toB).length : Nat) : Int)) = false := by simp
 rw [this, ifF]
 exact ZyD L hL L [] 0 rfl rfl

def bA : ByteArray := ByteArray.mk #[97]
def ZnQ : ByteArray := ByteArray.mk #[73, 110, 116]
def Zwz : ByteArray := ByteArray.mk #[66, 111, 111, 108]
def ZvT : ByteArray := ByteArray.mk #[91, 93]
theorem okA : Zmb bA = true ∧ bA.size ≤ 1048576 := ⟨by decide +kernel, by decide +kernel⟩
theorem gA : (ST.v bA).good := ⟨by decide +kernel, by decide +kernel⟩
theorem ZCJ : (ST.k ZnQ).good := ⟨by decide +kernel, by decide +kernel⟩
theorem ZFw : (ST.k Zwz).good := ⟨by decide +kernel, by decide +kernel⟩
theorem ZFS : (ST.a (.k ZvT) (.v bA)).good := ⟨by decide +kernel, by decide +kernel⟩
theorem ZuZ {s : ST} (h : s.good) (hn : s.nod ≤ 500) : s.ty.vol ≤ 1000000000 := by have := Zr0 s h.1; omega
theorem Zwt (a b : ST) (ha : a.good) (hb : b.good) (na : a.nod ≤ 500) (nb : b.nod ≤ 500) : ZbI a.ty b.ty = (ZB (atL 0 []) (([] : SB).map toB) (stk [(a, b)]) >>= fun ZpG => Zcy ZpG.2.1.flist >>= fun Zvl => some (Zvl, ZpG.1)) := by
 rw [ZbI, ZBX _ (by simp) (fun p hp => by rw [List.mem_singleton] at hp; subst hp; exact ⟨ZuZ ha na, ZuZ hb nb⟩)]
 have : [Zl.mk a.ty b.ty].all Zog = true := by simp [Zog, ZuU ha, ZuU hb]
 rw [if_pos this]
 show ((ZB (atL 0 []) (([] : SB).map toB) (stk [(a, b)]) >>= fun ZpG => Zcy ZpG.2.1.flist >>= fun Zvl => some (Zvl, ZpG.1)) >>= fun r1 => some (r1.1, r1.2)) = _
 cases ZB (atL 0 []) (([] : SB).map toB) (stk [(a, b)]) with
 | none => rfl
 | some r =>
  rw [Zn]
  cases Zcy r.2.1.flist <;> rfl
theorem ZuW : Zgg [] := fun p hp => absurd hp List.not_mem_nil
theorem ex1 : ZbI (ST.v bA).ty (ST.k ZnQ).ty = some ([Ze.mk bA (ST.k ZnQ).ty], 0) := by
 rw [Zwt _ _ gA ZCJ (by decide) (by decide), ZtS [] [] _ _ (by decide)]
 show (Zi3 [] (stk []) (ST.v bA).ty (ST.k ZnQ).ty >>= _) = _
 rw [Zro _ _ _ _ (fun y h => by cases h)]
 obtain ⟨s', h1, h2⟩ := Zvw [] ZuW bA okA rfl (.k ZnQ) ZCJ (by decide)
 have hb : ZfX [] bA (.k ZnQ) = (0, [(bA, .k ZnQ)]) := rfl
 rw [hb] at h1 h2
 rw [h1, h2 rfl, Zn]
 show (Zp 0 (atL 0 [(bA, .k ZnQ)]) ([(bA, .k ZnQ)].map toB) [] >>= _) = _
 rw [ZA2, ZB]
 show (Zcy ([(bA, .k ZnQ)].map toB) >>= _) = _
 rw [Zo9 _ (by simp)]
 rfl
theorem ex2 : ZbI (ST.v bA).ty (ST.a (.k ZvT) (.v bA)).ty = some ([], 23) := by
 rw [Zwt _ _ gA ZFS (by decide) (by decide), ZtS [] [] _ _ (by decide)]
 show (Zi3 [] (stk []) (ST.v bA).ty (ST.a (.k ZvT) (.v bA)).ty >>= _) = _
 rw [Zro _ _ _ _ (fun y h => by cases h)]
 obtain ⟨s', h1, h2⟩ := Zvw [] ZuW bA okA rfl (.a (.k ZvT) (.v bA)) ZFS (by decide)
 have hb : ZfX [] bA (.a (.k ZvT) (.v bA)) = (23, []) := by
  unfold ZfX
  have : ((ST.a (.k ZvT) (.v bA)).sub []).occ bA = true := by simp [ST.sub, ST.occ, lk]
  rw [if_pos this]
 rw [hb] at h1
 rw [h1, Zn, Zzl 23 (by decide), Zn]
 show (Zcy (([] : SB).map toB) >>= _) = _
 rw [Zo9 _ (by simp)]
 rfl
theorem ex3 : ZbI (ST.k ZnQ).ty (ST.k Zwz).ty = some ([], 22) := by
 rw [Zwt _ _ ZCJ ZFw (by decide) (by decide), ZtS [] [] _ _ (by decide)]
 show (Zi3 [] (stk []) (ST.k ZnQ).ty (ST.k Zwz).ty >>= _) = _
 rw [Zuq, if_neg (by decide +kernel), Zzl 22 (by decide), Zn]
 show (Zcy (([] : SB).map toB) >>= _) = _
 rw [Zo9 _ (by simp)]
 rfl
theorem ZBC : Zau = some true := by
 unfold Zau Zdj
 rw [Zn]
 show (ZbI (ST.v bA).ty (ST.k ZnQ).ty >>= _) = _
 rw [ex1, Zn, Zn]
 show (ZbI (ST.v bA).ty (ST.a (.k ZvT) (.v bA)).ty >>= _) = _
 rw [ex2, Zn, Zn, Zn]
 show (ZbI (ST.k ZnQ).ty (ST.k Zwz).ty >>= _) = _
 rw [ex3, Zn]
 show (some (bA.toList == bA.toList) >>= _) = _
 rw [Zn, ZkM, decide_eq_true rfl, ifT]
 show ((some (ZnQ.toList == ZnQ.toList)) >>= _) = _
 rw [Zn, ZkM, decide_eq_true rfl]
 rfl
theorem ZwA (l : List Za) : ∀ (xs : List Za) (n : Int) (k : Nat), (∀ t ∈ xs, t.vol ≤ 1000000000) → ∃ b, Zbd l n k xs = some b
 | [], n, k, _ => ⟨_, by rw [Zbd]⟩
 | t :: xs, n, k, h => by
  have hB : BIG = 1000000000000 := rfl
  have ht := h t (by simp)
  have hn := Zot t
  rw [Zbd, Zv2 t (by omega), Zn, Ztx t (by omega), Zn]
  split
  ·exact ⟨false, rfl⟩
  ·exact ZwA l xs _ _ fun u hu => h u (by simp [hu])
theorem Zrc (l : List Za) (h : ∀ t ∈ l, t.vol ≤ 1000000000) : ∃ b, Zb8 l = some b := by
 rw [Zb8]; exact ZwA l l 0 0 h
theorem Zp5 (a b : Za) (h : a.vol + b.vol ≤ 1048576) : ZbU a b = some true := by
 obtain ⟨s, hs⟩ := Zrc [a, b] (fun t ht => by simp at ht; rcases ht with rfl | rfl <;> omega)
 obtain ⟨e, L, h1, h2, h3, h4, h5, h6⟩ := ZqG [Zl.mk a b] (by simp [Zpy]; exact h)
 unfold ZbU
 rw [hs, Zn, ZBC]
 cases s with
 | false => rfl
 | true =>
  rw [Bool.not_true, ifF, ZbI, h1, Zn, Zn, ZdR, h2, Zn, Zn]
  have : ((L.map toB, e).2 == (L.map toB, e).2) = true := by simp
  show ((if (e == e) = true then ZbL (L.map toB) (L.map toB) >>= fun r9 => some r9 else some false) >>= _) = _
  rw [show (e == e) = true from by simp, ifT, Zsk L h3]
  rfl
theorem Zyu (pairs : List Zl) (h : Zpy pairs ≤ 1048576) : ∀ (d i : Nat) (l : List Za), pairs.length - i = d → i ≤ 31 → l.length ≤ 2 * i → (∀ t ∈ l, t.vol ≤ 1000000000) → ZaC pairs l i = some true := by
 have hend : ∀ (l : List Za), (∀ t ∈ l, t.vol ≤ 1000000000) → ((if (decide (((pairs.length : Nat) : Int) > 30)) = true then some true else Zb8 l >>= fun r72 => some (!r72)) >>= fun c73 =>
   if c73 = true then Zau >>= fun r76 => some r76
   else Zfc pairs >>= fun r77 => ZcN pairs >>= fun r78 => (if (r77.2 == r78.2) = true then ZbL r77.1 r78.1 >>= fun r79 => some r79 else some false) >>= fun c80 => (if c80 = true then Zau >>= fun r81 => some r81 else some false) >>= fun c82 => some c82) = some true := fun l hl => by
  obtain ⟨s, hs⟩ := Zrc l hl
  obtain ⟨e, L, h1, h2, h3, h4, h5, h6⟩ := ZqG pairs h
  rw [hs, ZBC, h1, h2]
  have hm : ((some (L.map toB, e)) >>= fun r77 => (some (L.map toB, e)) >>= fun r78 => (if (r77.2 == r78.2) = true then ZbL r77.1 r78.1 >>= fun r79 => some r79 else some false) >>= fun c80 => (if c80 = true then (some true >>= fun r81 => some r81) else some false) >>= fun c82 => some c82) = some true := by
   rw [Zn, Zn]
   show ((if (e == e) = true then ZbL (L.map toB) (L.map toB) >>= fun r9 => some r9 else some false) >>= _) = _
   rw [show (e == e) = true from by simp, ifT, Zsk L h3]
   rfl
  cases decide (((pairs.length : Nat) : Int) > 30) with
  | true => rfl
  | false =>
   cases s with
   | false => rfl
   | true => exact hm
 intro d
 induction d with
 | zero =>
  intro i l hd hi hl hv
  rw [ZaC, decide_eq_false (by omega)]
  exact hend l hv
 | succ d ih =>
  intro i l hd hi hl hv
  rw [ZaC]
  by_cases h31 : i < 31
  ·have hk : i < pairs.length := by omega
   have hx : pairs[i]? = some pairs[i] := List.getElem?_eq_getElem hk
   have hm := Zvq (List.mem_of_getElem? hx)
   generalize pairs[i] = x at hx hm
   rw [decide_eq_true (show ((i : Nat) : Int) < ((pairs.length : Nat) : Int) by omega), decide_eq_true (show ((i : Nat) : Int) < 31 by omega)]
   show (pairs[i]? >>= _) = _
   rw [hx, Zn, Zn, Zde _ (by simp; omega), Zde _ (by omega)]
   refine ih (i + 1) _ (by omega) (by omega) (by simp; omega) fun t ht => ?_
   rcases List.mem_append.1 ht with ht | ht
   ·exact hv t ht
   ·simp at ht; rcases ht with rfl | rfl <;> omega
  ·rw [decide_eq_false (show ¬ ((i : Nat) : Int) < 31 by omega), Bool.and_false]
   exact hend l hv
theorem Zvm (pairs : List Zl) (h : Zpy pairs ≤ 1048576) : ZcA pairs = some true := by
 rw [ZcA]
 exact Zyu pairs h _ 0 [] rfl (by omega) (by simp) (fun t ht => absurd ht List.not_mem_nil)
theorem Zxg {x : ByteArray} : ∀ {L : SB}, lk x L = none → ∀ p ∈ L, p.1 ≠ x
 | q :: L, h, p, hp => by
  rw [lk] at h
  by_cases e : q.1 = x
  ·rw [if_pos e] at h; cases h
  ·rw [if_neg e] at h
   rcases List.mem_cons.1 hp with rfl | hp
   ·exact e
   ·exact Zxg h p hp
theorem Zs6 (r : List Ze × Int) (i : Nat) (v : ByteArray) (fr : List ByteArray) (x : Nat) : ∀ (L : SB) (k : Nat), (∀ p ∈ L, p.1 ≠ v) → Z0 r i v k fr x (L.map toB) = ZZ r i fr (x + 1)
 | [], k, _ => by rw [List.map_nil, Z0]
 | p :: L, k, h => by
  rw [List.map_cons, Z0, ZkM]
  show (if decide (p.1 = v) = true then _ else _) = _
  rw [decide_eq_false (h p (by simp)), ifF]
  exact Zs6 r i v fr x L (k + 1) fun q hq => h q (by simp [hq])
theorem Zyr (L : SB) (e : Int) (i : Nat) (fr : List ByteArray) (h : ∀ v ∈ fr, ∀ p ∈ L, p.1 ≠ v) : ∀ (d x : Nat), fr.length - x = d → ZZ (L.map toB, e) i fr x = ZU (L.map toB, e) (i + 1) := by
 intro d
 induction d with
 | zero => intro x hd; rw [ZZ, decide_eq_false (by omega), ifF]
 | succ d ih =>
  intro x hd
  have hk : x < fr.length := by omega
  rw [ZZ, decide_eq_true (by omega), ifT, List.getElem?_eq_getElem hk, Zn]
  show Z0 _ i fr[x] 0 fr x (L.map toB) = _
  rw [Zs6 _ _ _ _ _ L 0 (h _ (List.getElem_mem hk))]
  exact ih (x + 1) (by omega)
theorem Zss (L : SB) (hL : Zgg L) (hI : ZrB L) (e : Int) : ∀ (d i : Nat), L.length - i = d → ZU (L.map toB, e) i = some true := by
 intro d
 induction d with
 | zero =>
  intro i hd
  rw [ZU, decide_eq_false (by simp; omega), ifF, ZBC]; rfl
 | succ d ih =>
  intro i hd
  have hk : i < L.length := by omega
  have hx : L[i]? = some L[i] := List.getElem?_eq_getElem hk
  have hm := List.mem_of_getElem? hx
  generalize L[i] = p at hx hm
  rw [ZU, decide_eq_true (by simp; omega), ifT]
  show ((L.map toB)[i]? >>= _) = _
  rw [List.getElem?_map, hx]
  show (Zds p.2.ty >>= _) = _
  rw [ZDs p.2 (hL p hm).1, Zn, Zyr L e i _ (fun v hv => Zxg (hI p hm v (((Zm9 v _ []).1 hv).resolve_left (by simp)))) _ 0 rfl]
  exact ih (i + 1) (by omega)
theorem ZpU (a b : Za) (h : a.vol + b.vol ≤ 1048576) : ZbN a b = some true := by
 obtain ⟨s, hs⟩ := Zrc [a, b] (fun t ht => by simp at ht; rcases ht with rfl | rfl <;> omega)
 obtain ⟨e, L, h1, h2, h3, h4, h5, h6⟩ := ZqG [Zl.mk a b] (by simp [Zpy]; exact h)
 unfold ZbN
 rw [ZbI, h1, Zn, Zn, hs, Zn, ZBC]
 by_cases he : e = 0
 ·obtain ⟨P, hP, hg, heq⟩ := h6 he
  subst he
  match P, hP, hg, heq with
  | [p], hP, hg, heq =>
   rw [List.map_cons, List.map_nil, List.cons.injEq] at hP
   have hp := hP.1
   unfold toP at hp
   rw [Zl.mk.injEq] at hp
   obtain ⟨rfl, rfl⟩ := hp
   have hg := hg p (by simp)
   have heq := heq p (by simp)
   have hr : Zin L p.1 = Zin L p.2 := by unfold Zin; rw [heq]
   cases s with
   | false => rfl
   | true =>
    show (Za3 (L.map toB) p.1.ty >>= _) = _
    rw [Zxf L h3 p.1 hg.1, Zn]
    show (Za3 (L.map toB) p.2.ty >>= _) = _
    rw [Zxf L h3 p.2 hg.2, Zn, ← hr]
    have ho : ((Zin L p.1).fOp != 0) = !(p.1.sub L).big := by rw [bne, Zo1]
    rw [ho]
    cases hb : (p.1.sub L).big with
    | true => exact Zss L h3 h4 0 _ 0 rfl
    | false =>
     have hs : Zin L p.1 = (p.1.sub L).ty := by unfold Zin; rw [hb, ifF]
     show ((Zca (Zin L p.1) (Zin L p.1) >>= _) >>= _) = _
     rw [hs, ZrG _ ⟨ZoC h3 p.1 hg.1.1, hb⟩, Zn, Zn]
     exact Zss L h3 h4 0 _ 0 rfl
 ·have h1 : (e == 0) = false := by rw [beq_eq_false_iff_ne]; exact he
  have h2 : (e != 0) = true := by rw [bne, h1]; rfl
  show (if (!s || (e != 0)) = true then _ else _) = _
  rw [h2, Bool.or_true, ifT]; rfl
#print axioms Zp5
#print axioms Zvm
#print axioms ZpU

theorem Znq {t : Nat} {k : TK} {es : List E} (hk : (tab.ti t).k = k) (h1 : ∀ fs, k ≠ .struct fs) (h2 : ∀ e, k ≠ .slice e) : (t = 25 → ∃ v : Zk, es = v.cells) ∧ (t = 23 → ∃ l : List Zk, es = [.sl (l.map Zk.cells)]) :=
 ⟨fun ht => by subst ht; exact absurd hk.symm (h1 _), fun ht => by subst ht; exact absurd hk.symm (h2 _)⟩
theorem Zy9 {t : Nat} {es : List E} (h : Sh tab t es) : (t = 25 → ∃ v : Zk, es = v.cells) ∧ (t = 23 → ∃ l : List Zk, es = [.sl (l.map Zk.cells)]) := by
 induction h with
 | bool t b h => exact Znq h (by simp) (by simp)
 | int t k n h hn => exact Znq h (by simp) (by simp)
 | string t s h hs => exact Znq h (by simp) (by simp)
 | array t n e parts h hl hf => exact Znq h (by simp) (by simp)
 | slice t e rows h hl hr ih =>
  refine ⟨fun ht => (by subst ht; cases h), fun ht => ?_⟩
  subst ht
  have he : e = 25 := by injection h with h; exact h.symm
  subst he
  obtain ⟨l, rfl⟩ := ZoW (f := Zk.cells) rows fun row hm => by
   obtain ⟨i, hi, rfl⟩ := List.mem_iff_getElem.1 hm
   exact (ih i _ (List.getElem?_eq_getElem hi)).1 rfl
  exact ⟨l, rfl⟩
 | struct t fs parts h hl hf ih =>
  refine ⟨fun ht => ?_, fun ht => (by subst ht; cases h)⟩
  subst ht
  have he : fs = [(23, 0)] := by injection h with h; exact h.symm
  subst he
  obtain ⟨a, rfl⟩ := ZGU hl
  obtain ⟨l, rfl⟩ := (ih 0 23 0 a rfl rfl).2 rfl
  exact ⟨.mk l, by rw [Zk.cells_eq]; rfl⟩
theorem ZA6 {es : List E} (h : Sh tab 25 es) : ∃ v : Zk, es = v.cells := (Zy9 h).1 rfl
theorem Znh {t : Nat} {k : TK} {es : List E} (hk : (tab.ti t).k = k) (h1 : ∀ fs, k ≠ .struct fs) (h2 : ∀ e, k ≠ .slice e) : (t = 28 → ∃ v : Za, es = v.cells) ∧ (t = 26 → ∃ l : List Za, es = [.sl (l.map Za.cells)]) :=
 ⟨fun ht => by subst ht; exact absurd hk.symm (h1 _), fun ht => by subst ht; exact absurd hk.symm (h2 _)⟩
theorem ZzO {t : Nat} {es : List E} (h : Sh tab t es) : (t = 28 → ∃ v : Za, es = v.cells) ∧ (t = 26 → ∃ l : List Za, es = [.sl (l.map Za.cells)]) := by
 induction h with
 | bool t b h => exact Znh h (by simp) (by simp)
 | int t k n h hn => exact Znh h (by simp) (by simp)
 | string t s h hs => exact Znh h (by simp) (by simp)
 | array t n e parts h hl hf => exact Znh h (by simp) (by simp)
 | slice t e rows h hl hr ih =>
  refine ⟨fun ht => (by subst ht; cases h), fun ht => ?_⟩
  subst ht
  have he : e = 28 := by injection h with h; exact h.symm
  subst he
  obtain ⟨l, rfl⟩ := ZoW (f := Za.cells) rows fun row hm => by
   obtain ⟨i, hi, rfl⟩ := List.mem_iff_getElem.1 hm
   exact (ih i _ (List.getElem?_eq_getElem hi)).1 rfl
  exact ⟨l, rfl⟩
 | struct t fs parts h hl hf ih =>
  refine ⟨fun ht => ?_, fun ht => (by subst ht; cases h)⟩
  subst ht
  have he : fs = [(22, 0), (9, 1), (25, 2), (26, 3)] := by injection h with h; exact h.symm
  subst he
  obtain ⟨a, b, c, d, rfl⟩ := ZIs hl
  obtain ⟨op, rfl, _⟩ := ZEb (hf 0 22 0 a rfl rfl) (k := .i64) rfl
  obtain ⟨name, rfl, _⟩ := ZxQ (hf 1 9 1 b rfl rfl) rfl
  obtain ⟨bd, rfl⟩ := ZA6 (hf 2 25 2 c rfl rfl)
  obtain ⟨kids, rfl⟩ := (ih 3 26 3 d rfl rfl).2 rfl
  exact ⟨.mk op name bd kids, by rw [Za.cells_eq, Zk.cells_eq]; rfl⟩
theorem Znu {es : List E} (h : Sh tab 28 es) : ∃ v : Za, es = v.cells := (ZzO h).1 rfl
theorem ZBf {es : List E} (h : Sh tab 38 es) : ∃ p : Zl, es = p.cells := by
 obtain ⟨parts, rfl, hl, hf⟩ := ZyS h (n := 2) (e := 28) rfl
 obtain ⟨a, b, rfl⟩ := ZHA hl
 obtain ⟨x, rfl⟩ := Znu (hf 0 a rfl)
 obtain ⟨y, rfl⟩ := Znu (hf 1 b rfl)
 exact ⟨⟨x, y⟩, by rw [Zl.cells_eq, Za.cells_eq, Za.cells_eq]; rfl⟩
theorem ZAZ {e : E} (h : Sh tab 37 [e]) : ∃ l : List Zl, e = .sl (l.map Zl.cells) := by
 obtain ⟨rows, h1, _, hr⟩ := ZAY h (e := 38) rfl
 obtain ⟨l, rfl⟩ := ZoW (f := Zl.cells) rows fun row hm => ZBf (hr row hm)
 injection h1 with h1
 exact ⟨l, h1⟩
theorem ZxY (k : Zk) : k.nod ≤ Zcs k.cells := by
 refine Zk.ind (M := fun k => k.nod ≤ Zcs k.cells) (fun v ih => ?_) k
 have key : ∀ l : List Zk, (∀ x ∈ l, x.nod ≤ Zcs x.cells) → Zk.nods l ≤ ZhJ (l.map Zk.cells) := by
  intro l
  induction l with
  | nil => intro _; rw [Zk.nods]; exact Nat.zero_le _
  | cons x l ih2 =>
   intro h
   rw [Zg2, List.map_cons, ZhJ]
   have h1 := h x (by simp)
   have h2 := ih2 fun y hy => h y (by simp [hy])
   omega
 have h1 := key _ ih
 rw [ZlM, Zk.cells_eq]
 simp only [Zcs, Zov]
 omega
theorem Zra : ∀ l : List Zk, Zk.nods l ≤ ZhJ (l.map Zk.cells)
 | [] => by rw [Zk.nods]; exact Nat.zero_le _
 | x :: l => by
  rw [Zg2, List.map_cons, ZhJ]
  have h1 := ZxY x
  have h2 := Zra l
  omega
theorem Zjq (t : Za) : t.vol ≤ Zcs t.cells := by
 refine Za.ind (M := fun t => t.vol ≤ Zcs t.cells) (fun v ih => ?_) t
 have key : ∀ l : List Za, (∀ x ∈ l, x.vol ≤ Zcs x.cells) → Za.vols l ≤ ZhJ (l.map Za.cells) := by
  intro l
  induction l with
  | nil => intro _; rw [Za.vols]; exact Nat.zero_le _
  | cons x l ih2 =>
   intro h
   rw [Zjh, List.map_cons, ZhJ]
   have h1 := h x (by simp)
   have h2 := ih2 fun y hy => h y (by simp [hy])
   omega
 have h1 := key _ ih
 have h2 := Zra v.fBound.fArgs
 rw [Zn7, Za.cells_eq, ZlM]
 simp only [Zcs, Zov]
 omega
theorem ZqP : ∀ l : List Zl, Zpy l ≤ ZhJ (l.map Zl.cells)
 | [] => Nat.zero_le _
 | p :: l => by
  have h1 := Zjq p.e0
  have h2 := Zjq p.e1
  have h3 := ZqP l
  have e : p.cells = p.e0.cells ++ p.e1.cells := by rw [Zl.cells_eq, Za.cells_eq, Za.cells_eq]; rfl
  rw [List.map_cons, ZhJ, e, Zit]
  unfold Zpy at *
  rw [List.map_cons, List.sum_cons]
  omega

theorem ZsG {W : World} (h : Lib.TabIs Tryz.prog W "internal/strconv.uint64pow10" .u64 Lib.pow10Tab) : ∀ x ∈ Zpc, old W x.1 x.2.1 ∧ x.2.2 (W.cell? ⟨x.1, x.2.1, none⟩) := by
 have hg : Tryz.prog.globalNamed "internal/strconv.uint64pow10" = some 3 := by kernel_rfl
 unfold Lib.TabIs World.var? at h
 rw [hg] at h
 simp only [Option.bind_some] at h
 split at h
 case h_2 => cases h
 rename_i cs t f hc
 injection h with h
 have hlt : 3 < W.heap.size := by
  rcases Nat.lt_or_ge 3 W.heap.size with h1 | h1
  ·exact h1
  ·rw [Array.getElem?_eq_none h1] at hc; cases hc
 have hcell : ∀ i, W.cell? ⟨3, i, none⟩ = (Lib.pow10Tab[i]?).map fun z => Value.int .u64 z := fun i => by
  have e0 : ((Lib.pow10Tab.map fun z => Value.int .u64 z).toArray)[i]? = (Lib.pow10Tab.map fun z => Value.int .u64 z)[i]? := List.getElem?_toArray
  simp only [World.cell?, hc, Option.isSome_none, Bool.false_eq_true, if_false, h]
  rw [e0, List.getElem?_map]
 intro x hx
 rcases List.mem_cons.1 hx with rfl | hx
 ·refine ⟨hlt, ?_⟩
  show ZqH (W.cell? ⟨3, 20, none⟩)
  rw [hcell]; rfl
 ·obtain ⟨i, hi, rfl⟩ := List.mem_map.1 hx
  have hi := List.mem_range.1 hi
  refine ⟨hlt, ?_⟩
  show Ztp i (W.cell? ⟨3, i, none⟩)
  rw [hcell, Lib.pow10Tab, List.getElem?_map, List.getElem?_range hi]
  rfl
theorem tab_third {W : World} {a b : String × DataW Unit} {r : List (String × DataW Unit)} (h : laidMet Tryz.prog (a :: b :: ("internal/strconv.uint64pow10", Lib.tabData .u64 Lib.pow10Tab) :: r) W) : Lib.TabIs Tryz.prog W "internal/strconv.uint64pow10" .u64 Lib.pow10Tab :=
 Lib.tabIs_of_head (g := 3) (t := 154) (e := 139) (n := 20) (by kernel_rfl) (by kernel_rfl) (by kernel_rfl) (by kernel_rfl) (by kernel_rfl) (by kernel_rfl) h.tail.tail
theorem globs0 {W : World} (h : Lib.TabIs Tryz.prog W "internal/strconv.uint64pow10" .u64 Lib.pow10Tab) (hr : Zd4 = []) : ZkU Tryz.prog W (old W) := fun x hx => ZsG h x (by
 have hx : x ∈ Zpc ++ Zd4 := hx
 rwa [hr, List.append_nil] at hx)

theorem Zv4 {P : Program} {W : World} {sp : Nat → Bool} {fuel t : Nat} {ms : Array (String × TypeId)} {nm : String} {d : DataW Unit} {p : List MemPlace} (hi : P.underlying t = some (.interface ms)) :
  ∀ cs : List Value, DataW.trod (fun _ => ()) P W 0 sp false fuel t cs = some (.iface nm d, p) → ∃ u v, cs = [.iface u v] := by
 intro cs h
 cases fuel with
 | zero => simp [DataW.trod] at h
 | succ fuel =>
  unfold DataW.trod at h
  rw [hi] at h
  split at h <;> first | (cases h; done) | (simp at h; done) | exact ⟨_, _, rfl⟩ | simp_all
theorem Zuv {P : Program} {n nm : String} {d : DataW Unit} {r : List (String × DataW Unit)} {W : World} {g ti : Nat} {ms : Array (String × TypeId)} (h : laidMet P ((n, .iface nm d) :: r) W) (hg : P.globalNamed n = some g)
  (ht : (P.globals[g]?).map (·.type) = some ti) (hi : P.underlying ti = some (.interface ms)) : ∃ u v, W.cell? ⟨g, 0, none⟩ = some (.iface u v) := by
 obtain ⟨ps, ⟨g', t, cs, fuel, p, q, h1, h2, h3, h4, h5, h6⟩, hn, hc⟩ := h
 obtain rfl := Option.some.inj (hg.symm.trans h1)
 obtain rfl := Option.some.inj (ht.symm.trans h2)
 obtain ⟨u, v, hcs⟩ := Zv4 hi cs.toList h4
 have := World.var?_cell hg h3 0
 refine ⟨u, v, ?_⟩
 rw [this, ← Array.getElem?_toList, hcs]; rfl
theorem ZqO {W : World} {g : Nat} {v : Value} (h : W.cell? ⟨g, 0, none⟩ = some v) : g < W.heap.size := by
 unfold World.cell? at h
 rcases Nat.lt_or_ge g W.heap.size with h1 | h1
 ·exact h1
 ·simp only [Array.getElem?_eq_none h1] at h; cases h
theorem globs_full {W : World} {a b c : String × DataW Unit} {n1 n2 : String} {d1 d2 : DataW Unit} {r : List (String × DataW Unit)} (h : Lib.TabIs Tryz.prog W "internal/strconv.uint64pow10" .u64 Lib.pow10Tab) (hS : W.ShapedOpen Tryz.prog)
  (hL : laidMet Tryz.prog (a :: b :: c :: ("strconv.ErrRange", .iface n1 d1) :: ("strconv.ErrSyntax", .iface n2 d2) :: r) W) : ZkU Tryz.prog W (old W) := fun x hx => by
 have hx : x ∈ Zpc ++ Zd4 := hx
 rcases List.mem_append.1 hx with hx | hx
 ·exact ZsG h x hx
 ·unfold Zd4 at hx
  simp only [List.mem_cons, List.not_mem_nil, or_false] at hx
  rcases hx with rfl | rfl | rfl
  ·obtain ⟨m, hm⟩ := cell_of_shapedOpen_int (zero := #[.int .i64 0]) (t := 3) hS (of_decide_eq_true (by kernel_rfl)) (by kernel_rfl) rfl (by kernel_rfl) (by kernel_rfl) Tryz.underlying3
   exact ⟨ZqO hm, m, hm⟩
  ·obtain ⟨u, v, he⟩ := Zuv (g := 1) (ti := 114) hL.tail.tail.tail.tail (by kernel_rfl) (by kernel_rfl) Tryz.underlying114
   exact ⟨ZqO he, _, he, .inr ⟨u, v, rfl⟩⟩
  ·obtain ⟨u, v, he⟩ := Zuv (g := 2) (ti := 114) hL.tail.tail.tail (by kernel_rfl) (by kernel_rfl) Tryz.underlying114
   exact ⟨ZqO he, _, he, .inr ⟨u, v, rfl⟩⟩

mutual
theorem Zqv {H : Type} : ∀ d : DataW H, Rows.uptoBulk d = ZiA d
 | .lit l => by cases l <;> simp [Rows.uptoBulk, ZiA]
 | .nil => by simp [Rows.uptoBulk, ZiA]
 | .ptr d => by simp [Rows.uptoBulk, ZiA, Zqv d]
 | .slice es sp => by simp [Rows.uptoBulk, ZiA, ZmF es, ZmF sp]
 | .agg ps => by simp [Rows.uptoBulk, ZiA, ZmF ps]
 | .iface _ d => by simp [Rows.uptoBulk, ZiA, Zqv d]
 | .map es => by simp [Rows.uptoBulk, ZiA, ZsK es]
 | .held _ => by simp [Rows.uptoBulk, ZiA]
theorem ZmF {H : Type} : ∀ l : List (DataW H), Rows.uptoBulkAll l = bulks l
 | [] => by simp [Rows.uptoBulkAll, bulks]
 | d :: l => by simp [Rows.uptoBulkAll, bulks, Zqv d, ZmF l]
theorem ZsK {H : Type} : ∀ l : List (Lit × DataW H), Rows.uptoBulkEntries l = Zrz l
 | [] => by simp [Rows.uptoBulkEntries, Zrz]
 | x :: l => by simp [Rows.uptoBulkEntries, Zrz, Zzx x, ZsK l]
theorem Zzx {H : Type} : ∀ x : Lit × DataW H, Rows.uptoBulkEntry x = Zy1 x
 | (l, d) => by cases l <;> simp [Rows.uptoBulkEntry, Zy1, Zqv d]
end
theorem upto_bulks {H : Type} {ds : List (DataW H)} (h : Rows.uptoSmall H ds = true) : bulks ds ≤ 1048576 := by
 have h := of_decide_eq_true h
 rwa [ZmF] at h

theorem unifyResult_true {a b : List E} (ha : Sh tab 28 a) (hb : Sh tab 28 b) (hB : Zcs a + Zcs b ≤ 1048576) : CallsA Tryz.prog 3 [.agg a, .agg b] (fun r => r = .c none (.v (.bool true))) := by
 obtain ⟨a, rfl⟩ := Znu ha
 obtain ⟨b, rfl⟩ := Znu hb
 have h1 := Zjq a
 have h2 := Zjq b
 have h := Zj5 a b true (Zp5 a b (by omega))
 unfold ZbU.M at h
 rw [Za.cells_eq, Za.cells_eq]
 exact Zj.mono h fun d b h => h.1

theorem unifyAll_true {a : E} (ha : Sh tab 37 [a]) (hB : Zcs [a] ≤ 1048576) : CallsA Tryz.prog 4 [.c none a] (fun r => r = .c none (.v (.bool true))) := by
 obtain ⟨l, rfl⟩ := ZAZ ha
 have h1 := ZqP l
 simp only [Zcs, Zov] at hB
 have h := Zlw l true (Zvm l (by omega))
 unfold ZcA.M at h
 exact Zj.mono h fun d b h => h.1

theorem unifySolves_true {a b : List E} (ha : Sh tab 28 a) (hb : Sh tab 28 b) (hB : Zcs a + Zcs b ≤ 1048576) : CallsA Tryz.prog 5 [.agg a, .agg b] (fun r => r = .c none (.v (.bool true))) := by
 obtain ⟨a, rfl⟩ := Znu ha
 obtain ⟨b, rfl⟩ := Znu hb
 have h1 := Zjq a
 have h2 := Zjq b
 have h := Zj2 a b true (ZpU a b (by omega))
 unfold ZbN.M at h
 rw [Za.cells_eq, Za.cells_eq]
 exact Zj.mono h fun d b h => h.1



end Go.Proofs.YtgbglhbdjambbaaGreatDoor
