/- Part 7 of the proof: the program's functions as Lean functions with their walks, and the plain law. It holds for every input, without conditions. -/
import Derived.Lib.LaidTab
import Derived.Lib.ItoaNum
import Derived.KernelRfl
import Derived.Stop.LaidErr
import Derived.Test.YtgbglhbdjambbaaGreatDoorRows
import Derived.Test.YtgbglhbdjambbaaGreatDoorUqA
import Derived.Test.YtgbglhbdjambbaaGreatDoorUqB
import Derived.Test.YtgbglhbdjambbaaGreatDoorUqC
import Derived.Test.YtgbglhbdjambbaaGreatDoorUqD
import Derived.Test.YtgbglhbdjambbaaGreatDoorUqE
import Derived.Test.YtgbglhbdjambbaaGreatDoorUqF
set_option linter.unusedVariables false
set_option linter.unusedSimpArgs false
set_option maxRecDepth 100000
set_option maxHeartbeats 4000000
set_option synthInstance.maxHeartbeats 1000000
set_option synthInstance.maxSize 1000
namespace Go.Proofs.YtgbglhbdjambbaaGreatDoor
open Go Go.Am
def Zau : Option (Bool) :=
 Zdi (ByteArray.mk #[73, 110, 116]) >>= fun r1 =>
 ZbI (Za.mk 1 (ByteArray.mk #[97]) (Zk.mk ([] : List Zk)) ([] : List Za)) r1 >>= fun r2 =>
 Zdi (ByteArray.mk #[91, 93]) >>= fun r3 =>
 ZbI (Za.mk 1 (ByteArray.mk #[97]) (Zk.mk ([] : List Zk)) ([] : List Za)) (Za.mk 3 (ByteArray.mk #[]) (Zk.mk ([] : List Zk)) ([r3, (Za.mk 1 (ByteArray.mk #[97]) (Zk.mk ([] : List Zk)) ([] : List Za))])) >>= fun r4 =>
 Zdi (ByteArray.mk #[73, 110, 116]) >>= fun r5 =>
 Zdi (ByteArray.mk #[66, 111, 111, 108]) >>= fun r6 =>
 ZbI r5 r6 >>= fun r7 =>
 (if ((r2.2 == 0) && (((r2.1.length : Nat) : Int) == 1)) = true then (ixI r2.1 0) >>= fun x9 =>
 some (x9.fName.toList == (ByteArray.mk #[97]).toList) else some false) >>= fun c10 =>
 (if c10 = true then (ixI r2.1 0) >>= fun x11 =>
 some (x11.fType.fName.toList == (ByteArray.mk #[73, 110, 116]).toList) else some false) >>= fun c12 =>
 some ((c12 && (r4.2 == 23)) && (r7.2 == 22))
def Zau.M (r : Bool) : Prop :=
 Zj Tryz.prog 11 [] [] (fun d b => d = .c none (.v (.bool r)) ∧ b = [])
theorem Zdh (r : Bool) (hF : Zau = some r) : Zau.M r := by
 unfold Zau at hF
 unfold Zau.M
 refine en Tryz.func11 ?_
 refine AWP.seq ?_
 refine ns ?_
 refine AWP.seq ?_
 refine ns ?_
 refine AWP.seq ?_
 obtain ⟨r1, hr1, hF⟩ := bind_some hF
 obtain ⟨r2, hr2, hF⟩ := bind_some hF
 refine nn ?_
 refine Or.inl (Exists.intro 7 (Exists.intro [[], [], [], [], [], [], []] (Exists.intro [([10, 11, 12, 9, 13, 14, 2], [], []), ([10, 11, 12, 9, 13, 14, 2], [], []), ([12, 9, 13, 14, 2], [], []), ([9, 13, 14, 2], [], []), ([13, 14, 2], [], []), ([13, 14, 2], [], []), ([14, 2], [], [])] (Exists.intro [10, 11, 12, 9, 13, 14, 2] (And.intro (by decide +kernel) ?_)))))
 refine dp ?_
 (refine st ?_; apply Exists.intro; apply Exists.intro; apply And.intro; (focus ((conv => whnf); refine Exists.intro [] ?_; (conv => whnf); refine And.intro rfl ?_; (conv => whnf); refine Zj.mono (Zj.weak (rn []) (ZfI (ByteArray.mk #[73, 110, 116]) _ hr1) rfl (WS.mk (tc Zb) Zc)) ?_; rintro d b ⟨rfl, rfl⟩; exact And.intro rfl (And.intro rfl rfl))); apply And.intro; (focus exact rfl); (conv => whnf))
 (refine st ?_; apply Exists.intro; apply Exists.intro; apply And.intro; (focus ((conv => whnf); refine Exists.intro [] ?_; (conv => whnf); refine And.intro rfl ?_; (conv => whnf); refine Zj.mono (Zj.weak (rn []) (ZfZ (Za.mk 1 (ByteArray.mk #[97]) (Zk.mk ([] : List Zk)) ([] : List Za)) r1 _ hr2) rfl (WS.mk (Zd (Zt (lc (lc (ZaR WE.nil (ZaR WE.nil Zo))))) (Zd (Zt (lc (lc (lc (lc Zo))))) Zb)) Zc)) ?_; rintro d b ⟨rfl, rfl⟩; exact And.intro rfl (And.intro rfl rfl))); apply And.intro; (focus exact rfl); (conv => whnf))
 refine dp ?_
 refine dp ?_
 refine dp ?_
 refine dp ?_
 refine st ?_
 refine AWP.seq ?_
 obtain ⟨r3, hr3, hF⟩ := bind_some hF
 obtain ⟨r4, hr4, hF⟩ := bind_some hF
 refine nn ?_
 refine Or.inl (Exists.intro 10 (Exists.intro [[], [], [], [], [], [], [], [], [], []] (Exists.intro [([16, 17, 18, 19, 20, 21, 15, 22, 23, 4], [], []), ([16, 17, 18, 19, 20, 21, 15, 22, 23, 4], [], []), ([16, 17, 18, 19, 20, 21, 15, 22, 23, 4], [], []), ([16, 19, 20, 21, 15, 22, 23, 4], [], []), ([16, 20, 21, 15, 22, 23, 4], [], []), ([21, 15, 22, 23, 4], [], []), ([15, 22, 23, 4], [], []), ([22, 23, 4], [], []), ([22, 23, 4], [], []), ([23, 4], [], [])] (Exists.intro [16, 17, 18, 19, 20, 21, 15, 22, 23, 4] (And.intro (by decide +kernel) ?_)))))
 refine dp ?_
 (refine st ?_; apply Exists.intro; apply Exists.intro; apply And.intro; (focus ((conv => whnf); refine Exists.intro [] ?_; (conv => whnf); refine And.intro rfl ?_; (conv => whnf); refine Zj.mono (Zj.weak (rn []) (ZfI (ByteArray.mk #[91, 93]) _ hr3) rfl (WS.mk (tc Zb) Zc)) ?_; rintro d b ⟨rfl, rfl⟩; exact And.intro rfl (And.intro rfl rfl))); apply And.intro; (focus exact rfl); (conv => whnf))
 refine dp ?_
 refine de (Zbt (f := Za.cells) (ZdA (Za.cells_eq r3) (lc (lc (lc (lc Zo))))) (Zbt (f := Za.cells) (ZdA (Za.cells_eq (Za.mk 1 (ByteArray.mk #[97]) (Zk.mk ([] : List Zk)) ([] : List Za))) (lc (lc (ZaR WE.nil (ZaR WE.nil Zo))))) (ZY (f := Za.cells)))) ?_
 refine dp ?_
 (refine st ?_; apply Exists.intro; apply Exists.intro; apply And.intro; (focus ((conv => whnf); refine Exists.intro [] ?_; (conv => whnf); refine And.intro rfl ?_; (conv => whnf); refine Zj.mono (Zj.weak (rn []) (ZfZ (Za.mk 1 (ByteArray.mk #[97]) (Zk.mk ([] : List Zk)) ([] : List Za)) (Za.mk 3 (ByteArray.mk #[]) (Zk.mk ([] : List Zk)) ([r3, (Za.mk 1 (ByteArray.mk #[97]) (Zk.mk ([] : List Zk)) ([] : List Za))])) _ hr4) rfl (WS.mk (Zd (Zt (lc (lc (ZaR WE.nil (ZaR WE.nil Zo))))) (Zd (Zt (lc (lc (ZaR WE.nil (lc Zo))))) Zb)) Zc)) ?_; rintro d b ⟨rfl, rfl⟩; exact And.intro rfl (And.intro rfl rfl))); apply And.intro; (focus exact rfl); (conv => whnf))
 refine dp ?_
 refine dp ?_
 refine dp ?_
 refine dp ?_
 refine st ?_
 refine AWP.seq ?_
 obtain ⟨r5, hr5, hF⟩ := bind_some hF
 obtain ⟨r6, hr6, hF⟩ := bind_some hF
 obtain ⟨r7, hr7, hF⟩ := bind_some hF
 refine ns ?_
 refine e3 ?_
 refine st ?_
 refine cm (Zj.weak (rn []) (ZfI (ByteArray.mk #[73, 110, 116]) _ hr5) rfl (WS.mk (tc Zb) Zc)) ?_
 refine st ?_
 refine e3 ?_
 refine st ?_
 refine cm (Zj.weak (rn []) (ZfI (ByteArray.mk #[66, 111, 111, 108]) _ hr6) rfl (WS.mk (tc Zb) Zc)) ?_
 refine st ?_
 refine e3 ?_
 refine st ?_
 refine cm (Zj.weak (rn []) (ZfZ r5 r6 _ hr7) rfl (WS.mk (Zd (Zt (lc (lc (lc (lc Zo))))) (Zd (Zt (lc (lc (lc (lc Zo))))) Zb)) Zc)) ?_
 refine st ?_
 refine AWP.seq ?_
 obtain ⟨c10, Zdt, hF⟩ := bind_some hF
 obtain ⟨c12, ZcJ, hF⟩ := bind_some hF
 refine AWP.cutN (fun T => ∃ r, WS r T ⟨[(0, .c none (.v (.bool ((c12 && (r4.2 == 23)) && (r7.2 == 22)))))], []⟩) ?_ (fun T hw => ?_)
 ·refine ns ?_
  refine Zm true (fun ZbE => ?_) (fun ZbE => ?_)
  ·(conv => whnf)
   refine st ?_
   intro hlen8
   (try rw [List.length_map] at hlen8)
   (try rw [List.length_map])
   refine st ?_
   refine Zm true (fun Zdl => ?_) (fun Zdl => ?_)
   ·have Zdt := ift (And.intro ZbE Zdl) Zdt
    obtain ⟨x9, hx90, hx9, Zdt⟩ := ZcL Zdt
    (conv => whnf)
    refine sr (ZbX (f := Ze.cells) (Ze.cells_eq x9) hx9) ?_
    obtain rfl := Zg Zdt
    refine st ?_
    refine Zm true (fun Zfg => ?_) (fun Zfg => ?_)
    ·have ZcJ := ift (And.intro ZbE (And.intro Zdl Zfg)) ZcJ
     obtain ⟨x11, hx110, ZIk, ZcJ⟩ := ZcL ZcJ
     (conv => whnf)
     refine sr (ZbX (f := Ze.cells) (Ze.cells_eq x11) ZIk) ?_
     obtain rfl := Zg ZcJ
     refine st ?_
     refine Zm true (fun Zgs => ?_) (fun Zgs => ?_)
     ·(conv => whnf)
      refine st ?_
      refine Zm true (fun ZiR => ?_) (fun ZiR => ?_)
      ·(conv => whnf)
       refine st ?_
       exact wx (WS.mk (Zd (Zr (web (And.intro ZbE (And.intro Zdl (And.intro Zfg (And.intro Zgs ZiR)))))) Zb) Zc)
      ·(conv => whnf)
       refine st ?_
       exact wx (WS.mk (Zd (Zr (web (And.intro ZbE (And.intro Zdl (And.intro Zfg (And.intro Zgs ZiR)))))) Zb) Zc)
     ·(conv => whnf)
      refine st ?_
      exact wx (WS.mk (Zd (Zr (web (And.intro ZbE (And.intro Zdl (And.intro Zfg Zgs))))) Zb) Zc)
    ·have ZcJ := ife (And.intro ZbE (And.intro Zdl Zfg)) ZcJ
     (conv => whnf)
     obtain rfl := Zg ZcJ
     refine st ?_
     exact wx (WS.mk (Zd (Zr (web (And.intro ZbE (And.intro Zdl Zfg)))) Zb) Zc)
   ·have Zdt := ife (And.intro ZbE Zdl) Zdt
    (conv => whnf)
    obtain rfl := Zg Zdt
    have ZcJ := ife (And.intro ZbE Zdl) ZcJ
    obtain rfl := Zg ZcJ
    refine st ?_
    exact wx (WS.mk (Zd (Zr (web (And.intro ZbE Zdl))) Zb) Zc)
  ·(conv => whnf)
   have Zdt := ife ZbE Zdt
   obtain rfl := Zg Zdt
   have ZcJ := ife ZbE ZcJ
   obtain rfl := Zg ZcJ
   refine st ?_
   exact wx (WS.mk (Zd (Zr (web ZbE)) Zb) Zc)
 obtain ⟨r0, hw⟩ := hw
 (conv => whnf)
 refine AWP.weak r0 hw ?_
 obtain rfl := Zg hF
 refine ns ?_
 refine Exists.intro [] ?_
 refine st ?_
 exact wx (WS.mk (tc Zb) Zc)

def Zbc (l : (List Za)) (n_3 : Int) (i_4 : Nat) (ZaO : (List Za)) : Option (Bool) :=
 (match ZaO with
 | x22 :: Zwb =>
 ZaL x22 >>= fun r25 =>
 ZaG x22 >>= fun r26 =>
 if (decide (r26 > 110)) = true then
 some false
 else
 Zbc l (IntKind.i64.wrap (n_3 + r25)) (i_4 + 1) Zwb
 | [] =>
 some (decide (n_3 ≤ 400)))
 partial_fixpoint
def Zbc.M (l : (List Za)) (n_3 : Int) (i_4 : Nat) (ZaO : (List Za)) (r : Bool) : Prop :=
 ∀ Zdy : List Za, l = Zdy ++ ZaO → i_4 = Zdy.length → AWL Tryz.prog 26 (Code.sub (Zq Tryz.f10) [1, 1, 0, 1, 0, 0]) (Code.cont Tryz.prog 26 (Zq Tryz.f10) [1, 1, 0, 1, 0] (ZbW tab Tryz.f10.results (ZbY (.c none (.v (.bool r))) []))) ⟨[(0, .c none (.sl (l.map Za.cells))), (3, .c none (.v (.int .i64 n_3))), (4, .c none (.v (.int .i64 ((i_4 : Nat) : Int))))], []⟩
theorem ZlK (l : (List Za)) (n_3 : Int) (i_4 : Nat) (ZaO : (List Za)) : ∀ r, Zbc l n_3 i_4 ZaO = some r → Zbc.M l n_3 i_4 ZaO r := by
 refine Zbc.partial_correctness l (fun n_3 i_4 ZaO r => Zbc.M l n_3 i_4 ZaO r) ?_ n_3 i_4 ZaO
 intro lazyclaw18_small_l1' Zhf n_3 i_4 ZaO r hF
 have Zlh := fun (_l : (List Za)) (n_3 : Int) (i_4 : Nat) (ZaO : (List Za)) => Zhf n_3 i_4 ZaO
 clear Zhf
 unfold Zbc.M
 intro Zdy ZhJ Zhz
 refine AWL.step ?_
 refine AWP.seq ?_
 refine AWP.seq ?_
 refine ns ?_
 intro hlen21
 (try rw [List.length_map] at hlen21)
 (try rw [List.length_map])
 refine st ?_
 refine nw ?_
 refine ZN ZhJ Zhz (fun x22 Zwb ZvZ ZBc ZDZ => ?_) (fun ZvZ => ?_)
 ·subst ZvZ
  refine nw ?_
  refine AWP.seq ?_
  refine AWP.block ?_
  refine AWP.seq ?_
  obtain ⟨r25, ZD9, hF⟩ := bind_some hF
  refine nn ?_
  refine sr (Zab (f := Za.cells) (Za.cells_eq x22) ZBc) ?_
  refine st ?_
  refine e3 ?_
  refine st ?_
  refine cm (Zj.weak (rn []) (Zg1 x22 _ ZD9) rfl (WS.mk (Zd (Zt (lc (lc (lc (lc Zo))))) Zb) Zc)) ?_
  refine st ?_
  refine AWP.seq ?_
  obtain ⟨r26, ZHw, hF⟩ := bind_some hF
  refine nn ?_
  refine sr (Zab (f := Za.cells) (Za.cells_eq x22) ZBc) ?_
  refine st ?_
  refine e3 ?_
  refine st ?_
  refine cm (Zj.weak (rn []) (Zgt x22 _ ZHw) rfl (WS.mk (Zd (Zt (lc (lc (lc (lc Zo))))) Zb) Zc)) ?_
  refine st ?_
  refine nw ?_
  refine Zi hF (fun ZtV hF => ?_) (fun ZtV hF => ?_)
  ·refine AWP.seq ?_
   refine ns ?_
   obtain rfl := Zg hF
   refine ns ?_
   refine Exists.intro [] ?_
   refine st ?_
   exact wx (WS.mk (tc Zb) Zc)
  ·refine nw ?_
   refine ns ?_
   refine AWL.weak (rn []) ?_ (Zlh l (IntKind.i64.wrap (n_3 + r25)) (i_4 + 1) Zwb _ hF (Zdy ++ [x22]) (by rw [ZhJ]; simp) (by rw [Zhz]; simp))
   exact (WS.mk (tc (tc (Zd (Zr (Zdf (ZV hlen21 ZDZ))) Zb))) Zc)
 ·subst ZvZ
  refine nw ?_
  refine AWP.seq ?_
  refine ns ?_
  obtain rfl := Zg hF
  refine ns ?_
  refine Exists.intro [] ?_
  refine st ?_
  exact wx (WS.mk (tc Zb) Zc)

def Zb9 (l : (List Za)) : Option (Bool) :=
 Zbc l 0 0 l
def Zb9.M (l : (List Za)) (r : Bool) : Prop :=
 Zj Tryz.prog 10 [.c none (.sl (l.map Za.cells))] [] (fun d b => d = .c none (.v (.bool r)) ∧ b = [])
theorem Zgr (l : (List Za)) (r : Bool) (hF : Zb9 l = some r) : Zb9.M l r := by
 unfold Zb9 at hF
 unfold Zb9.M
 refine en Tryz.func10 ?_
 refine AWP.seq ?_
 refine ns ?_
 refine AWP.seq ?_
 refine ns ?_
 refine AWP.seq ?_
 refine AWP.seq ?_
 refine ns ?_
 refine AWP.block ?_
 refine AWP.loop ?_
 refine AWL.weak (rn []) ?_ (ZlK l 0 0 l _ hF ([]) rfl rfl)
 exact (WS.mk (tc (tc (tc Zb))) Zc)

def ZbQ (a : Za) (b : Za) : Option (Bool) :=
 Zb9 ([a, b]) >>= fun r4 =>
 if (!r4) = true then
 Zau >>= fun r6 =>
 some r6
 else
 ZbI a b >>= fun r7 =>
 ZdR a b >>= fun r8 =>
 (if (r7.2 == r8.2) = true then ZbL r7.1 r8.1 >>= fun r9 =>
 some r9 else some false) >>= fun c10 =>
 (if c10 = true then Zau >>= fun r11 =>
 some r11 else some false) >>= fun c12 =>
 some c12
def ZbQ.M (a : Za) (b : Za) (r : Bool) : Prop :=
 Zj Tryz.prog 3 [.agg [.v (.int .i64 a.fOp), .v (.string a.fName), .sl (a.fBound.fArgs.map Zk.cells), .sl (a.fKids.map Za.cells)], .agg [.v (.int .i64 b.fOp), .v (.string b.fName), .sl (b.fBound.fArgs.map Zk.cells), .sl (b.fKids.map Za.cells)]] [] (fun d b => d = .c none (.v (.bool r)) ∧ b = [])
theorem ZjZ (a : Za) (b : Za) (r : Bool) (hF : ZbQ a b = some r) : ZbQ.M a b r := by
 unfold ZbQ at hF
 unfold ZbQ.M
 refine en Tryz.func3 ?_
 refine AWP.seq ?_
 refine ns ?_
 refine AWP.seq ?_
 refine AWP.seq ?_
 obtain ⟨r4, hr4, hF⟩ := bind_some hF
 refine ns ?_
 refine Exists.intro _ (And.intro (Zbt (f := Za.cells) (ZdA (Za.cells_eq a) (lc (lc (lc (lc Zo))))) (Zbt (f := Za.cells) (ZdA (Za.cells_eq b) (lc (lc (lc (lc Zo))))) (ZY (f := Za.cells)))) ?_)
 refine st ?_
 refine Exists.intro [11] (Exists.intro [] (Exists.intro [] ?_))
 refine st ?_
 refine cm (Zj.weak (rn []) (Zgr ([a, b]) _ hr4) rfl (WS.mk (tc Zb) Zc)) ?_
 refine st ?_
 refine nw ?_
 refine Zi hF (fun hc5 hF => ?_) (fun hc5 hF => ?_)
 ·refine AWP.seq ?_
  obtain ⟨r6, hr6, hF⟩ := bind_some hF
  refine ns ?_
  refine e3 ?_
  refine st ?_
  refine cm (Zj.weak (rn []) (Zdh _ hr6) rfl (WS.mk Zb Zc)) ?_
  refine st ?_
  obtain rfl := Zg hF
  refine ns ?_
  refine Exists.intro [] ?_
  refine st ?_
  exact wx (WS.mk (tc Zb) Zc)
 ·refine nw ?_
  refine AWP.seq ?_
  obtain ⟨r7, hr7, hF⟩ := bind_some hF
  refine ns ?_
  refine e3 ?_
  refine st ?_
  refine cm (Zj.weak (rn []) (ZfZ a b _ hr7) rfl (WS.mk (Zd (Zt (lc (lc (lc (lc Zo))))) (Zd (Zt (lc (lc (lc (lc Zo))))) Zb)) Zc)) ?_
  refine st ?_
  refine AWP.seq ?_
  obtain ⟨r8, hr8, hF⟩ := bind_some hF
  refine ns ?_
  refine e3 ?_
  refine st ?_
  refine cm (Zj.weak (rn []) (ZnP a b _ hr8) rfl (WS.mk (Zd (Zt (lc (lc (lc (lc Zo))))) (Zd (Zt (lc (lc (lc (lc Zo))))) Zb)) Zc)) ?_
  refine st ?_
  refine AWP.seq ?_
  obtain ⟨c10, Zdt, hF⟩ := bind_some hF
  obtain ⟨c12, ZcJ, hF⟩ := bind_some hF
  refine AWP.cutN (fun T => ∃ r, WS r T ⟨[(4, .c none (.v (.bool c12)))], []⟩) ?_ (fun T hw => ?_)
  ·refine ns ?_
   refine Zm true (fun ZbE => ?_) (fun ZbE => ?_)
   ·have Zdt := ift ZbE Zdt
    obtain ⟨r9, hr9, Zdt⟩ := bind_some Zdt
    (conv => whnf)
    refine st ?_
    refine e3 ?_
    refine st ?_
    refine cm (Zj.weak (rn []) (ZjH r7.1 r8.1 _ hr9) rfl (WS.mk (tc (tc Zb)) Zc)) ?_
    refine st ?_
    obtain rfl := Zg Zdt
    refine st ?_
    refine Zm true (fun Zdl => ?_) (fun Zdl => ?_)
    ·have ZcJ := ift (And.intro ZbE Zdl) ZcJ
     obtain ⟨r11, ZvJ, ZcJ⟩ := bind_some ZcJ
     (conv => whnf)
     refine st ?_
     refine e3 ?_
     refine st ?_
     refine cm (Zj.weak (rn []) (Zdh _ ZvJ) rfl (WS.mk Zb Zc)) ?_
     refine st ?_
     obtain rfl := Zg ZcJ
     refine st ?_
     exact wx (WS.mk (Zd (Zr (web (And.intro ZbE Zdl))) Zb) Zc)
    ·have ZcJ := ife (And.intro ZbE Zdl) ZcJ
     (conv => whnf)
     obtain rfl := Zg ZcJ
     refine st ?_
     exact wx (WS.mk (Zd (Zr (web (And.intro ZbE Zdl))) Zb) Zc)
   ·have Zdt := ife ZbE Zdt
    (conv => whnf)
    obtain rfl := Zg Zdt
    have ZcJ := ife ZbE ZcJ
    obtain rfl := Zg ZcJ
    refine st ?_
    exact wx (WS.mk (Zd (Zr (web ZbE)) Zb) Zc)
  obtain ⟨r0, hw⟩ := hw
  (conv => whnf)
  refine AWP.weak r0 hw ?_
  obtain rfl := Zg hF
  refine ns ?_
  refine Exists.intro [] ?_
  refine st ?_
  exact wx (WS.mk (tc Zb) Zc)

def ZaD (pairs : (List Zl)) (l_3 : (List Za)) (i_4 : Nat) : Option (Bool) :=
 if ((decide (((i_4 : Nat) : Int) < ((pairs.length : Nat) : Int))) && (decide (((i_4 : Nat) : Int) < 31))) = true then
 (pairs[i_4]?) >>= fun x62 =>
 (pairs[i_4]?) >>= fun x63 =>
 Z5 ((l_3.length + ([x62.e0, x63.e1]).length) * 72 ≤ 140737488355328) >>= fun _ =>
 Z5 (i_4 + 1 ≤ 9223372036854775807) >>= fun _ =>
 ZaD pairs (l_3 ++ ([x62.e0, x63.e1])) (i_4 + 1)
 else
 (if (decide (((pairs.length : Nat) : Int) > 30)) = true then some true else Zb9 l_3 >>= fun r72 =>
 some (!r72)) >>= fun c73 =>
 if c73 = true then
 Zau >>= fun r76 =>
 some r76
 else
 Ze8 pairs >>= fun r77 =>
 ZcN pairs >>= fun r78 =>
 (if (r77.2 == r78.2) = true then ZbL r77.1 r78.1 >>= fun r79 =>
 some r79 else some false) >>= fun c80 =>
 (if c80 = true then Zau >>= fun r81 =>
 some r81 else some false) >>= fun c82 =>
 some c82
 partial_fixpoint
def ZaD.M (pairs : (List Zl)) (l_3 : (List Za)) (i_4 : Nat) (r : Bool) : Prop :=
 AWL Tryz.prog 63 (Code.sub (Zq Tryz.f4) [1, 1, 0, 1, 0, 0]) (Code.cont Tryz.prog 63 (Zq Tryz.f4) [1, 1, 0, 1, 0] (ZbW tab Tryz.f4.results (ZbY (.c none (.v (.bool r))) []))) ⟨[(0, .c none (.sl (pairs.map Zl.cells))), (3, .c (some (3, 28)) (.sl (l_3.map Za.cells))), (4, .c none (.v (.int .i64 ((i_4 : Nat) : Int))))], []⟩
theorem Zj6 (pairs : (List Zl)) (l_3 : (List Za)) (i_4 : Nat) : ∀ r, ZaD pairs l_3 i_4 = some r → ZaD.M pairs l_3 i_4 r := by
 refine ZaD.partial_correctness pairs (fun l_3 i_4 r => ZaD.M pairs l_3 i_4 r) ?_ l_3 i_4
 intro lazyclaw18_UnifyAll_l1' Zf9 l_3 i_4 r hF
 have ZjX := fun (_pairs : (List Zl)) (l_3 : (List Za)) (i_4 : Nat) => Zf9 l_3 i_4
 clear Zf9
 unfold ZaD.M
 refine AWL.step ?_
 refine AWP.seq ?_
 refine AWP.seq ?_
 refine AWP.cutN (fun T => ∃ r, WS r T ⟨[(0, .c none (.sl (pairs.map Zl.cells))), (3, .c (some (3, 28)) (.sl (l_3.map Za.cells))), (4, .c none (.v (.int .i64 ((i_4 : Nat) : Int)))), (17, .c none (.v (.bool ((decide (((i_4 : Nat) : Int) < ((pairs.length : Nat) : Int))) && (decide (((i_4 : Nat) : Int) < 31))))))], []⟩) ?_ (fun T hw => ?_)
 ·refine ns ?_
  intro hlen56
  (try rw [List.length_map] at hlen56)
  (try rw [List.length_map])
  refine st ?_
  refine Zm true (fun Zh6 => ?_) (fun Zh6 => ?_)
  ·(conv => whnf)
   refine st ?_
   exact Exists.intro (rn [(3, 3)]) (WS.mk (tc (Zd (Zam rfl (WE.refl _)) (tc (Zd (Zr (web Zh6)) Zb)))) Zc)
  ·(conv => whnf)
   refine st ?_
   exact Exists.intro (rn [(3, 3)]) (WS.mk (tc (Zd (Zam rfl (WE.refl _)) (tc (Zd (Zr (web Zh6)) Zb)))) Zc)
 obtain ⟨r0, hw⟩ := hw
 (conv => whnf)
 refine AWP.weak r0 hw ?_
 refine nw ?_
 refine Zi hF (fun Zm6 hF => ?_) (fun Zm6 hF => ?_)
 ·refine nw ?_
  refine AWP.seq ?_
  refine AWP.block ?_
  obtain ⟨x62, ZCe, hF⟩ := bind_some hF
  obtain ⟨x63, ZHu, hF⟩ := bind_some hF
  obtain ⟨ZHN, hF⟩ := Zy hF
  refine nn ?_
  refine Or.inl (Exists.intro 12 (Exists.intro [[], [], [], [], [], [], [], [], [], [], [], []] (Exists.intro [([20, 21, 22, 23, 24, 25, 26, 27, 28, 29, 30, 31], [], []), ([20, 21, 22, 23, 24, 25, 26, 27, 28, 29, 30, 31], [], []), ([20, 21, 22, 23, 24, 25, 26, 27, 28, 29, 30, 31], [], []), ([20, 23, 24, 25, 26, 27, 28, 29, 30, 31], [], []), ([20, 24, 25, 26, 27, 28, 29, 30, 31], [], []), ([20, 25, 26, 27, 28, 29, 30, 31], [], []), ([20, 21, 22, 23, 24, 25, 26, 27, 28, 29, 30, 31], [], []), ([20, 21, 22, 23, 24, 25, 26, 27, 28, 29, 30, 31], [], []), ([20, 21, 22, 23, 24, 25, 28, 29, 30, 31], [], []), ([20, 21, 22, 23, 24, 25, 29, 30, 31], [], []), ([20, 21, 22, 23, 24, 25, 30, 31], [], []), ([20, 31], [], [])] (Exists.intro [20, 21, 22, 23, 24, 25, 26, 27, 28, 29, 30, 31] (And.intro (by decide +kernel) ?_)))))
  refine dp ?_
  refine dp ?_
  refine dp ?_
  refine dr (Zab (Zl.cells_eq x62) ZCe) ?_
  refine dp ?_
  refine dp ?_
  refine dp ?_
  refine dp ?_
  refine dr (Zab (Zl.cells_eq x63) ZHu) ?_
  refine dp ?_
  refine dp ?_
  refine de (Zbt (f := Za.cells) (ZdA (Za.cells_eq x62.e0) (lc (lc (lc (lc Zo))))) (Zbt (f := Za.cells) (ZdA (Za.cells_eq x63.e1) (lc (lc (lc (lc Zo))))) (ZY (f := Za.cells)))) ?_
  refine sa (fun l => ZbU l (fun x => Za.cells_len x)) ZHN ?_
  refine Exists.intro _ (And.intro (WE.refl _) ?_)
  rw [← List.map_append]
  refine st ?_
  obtain ⟨ZDL, hF⟩ := Zy hF
  refine ns ?_
  refine AWL.weak (rn [(32, 3)]) ?_ (ZjX pairs (l_3 ++ ([x62.e0, x63.e1])) (i_4 + 1) _ hF)
  exact (WS.mk (tc (Zd (Zam rfl (WE.refl _)) (Zd (Zr (Zdf (Zdu ZDL))) Zb))) Zc)
 ·refine nw ?_
  refine AWP.seq ?_
  refine AWP.seq ?_
  obtain ⟨c73, Zsh, hF⟩ := bind_some hF
  refine AWP.cutN (fun T => ∃ r, WS r T ⟨[(0, .c none (.sl (pairs.map Zl.cells))), (40, .c none (.v (.bool c73)))], []⟩) ?_ (fun T hw => ?_)
  ·refine ns ?_
   intro hlen71
   (try rw [List.length_map] at hlen71)
   (try rw [List.length_map])
   refine st ?_
   refine Zm false (fun ZzC => ?_) (fun ZzC => ?_)
   ·have Zsh := ift ZzC Zsh
    (conv => whnf)
    obtain rfl := Zg Zsh
    refine st ?_
    exact wx (WS.mk (tc (Zd (Zr (web ZzC)) Zb)) Zc)
   ·have Zsh := ife ZzC Zsh
    obtain ⟨r72, ZHm, Zsh⟩ := bind_some Zsh
    (conv => whnf)
    refine st ?_
    refine Exists.intro [3] (Exists.intro [] (Exists.intro [] ?_))
    refine st ?_
    refine cm (Zj.weak (rn []) (Zgr l_3 _ ZHm) rfl (WS.mk (tc Zb) Zc)) ?_
    refine st ?_
    obtain rfl := Zg Zsh
    refine st ?_
    exact wx (WS.mk (tc (Zd (Zr (web ZzC)) Zb)) Zc)
  obtain ⟨r0, hw⟩ := hw
  (conv => whnf)
  refine AWP.weak r0 hw ?_
  refine nw ?_
  refine Zi hF (fun ZHh hF => ?_) (fun ZHh hF => ?_)
  ·refine AWP.seq ?_
   obtain ⟨r76, ZHK, hF⟩ := bind_some hF
   refine ns ?_
   refine e3 ?_
   refine st ?_
   refine cm (Zj.weak (rn []) (Zdh _ ZHK) rfl (WS.mk Zb Zc)) ?_
   refine st ?_
   obtain rfl := Zg hF
   refine ns ?_
   refine Exists.intro [] ?_
   refine st ?_
   exact wx (WS.mk (tc Zb) Zc)
  ·refine nw ?_
   refine AWP.seq ?_
   obtain ⟨r77, ZDy, hF⟩ := bind_some hF
   refine ns ?_
   refine e3 ?_
   refine st ?_
   refine cm (Zj.weak (rn []) (ZoM pairs _ ZDy) rfl (WS.mk (tc Zb) Zc)) ?_
   refine st ?_
   refine AWP.seq ?_
   obtain ⟨r78, ZH5, hF⟩ := bind_some hF
   refine ns ?_
   refine e3 ?_
   refine st ?_
   refine cm (Zj.weak (rn []) (Zkc pairs _ ZH5) rfl (WS.mk (tc Zb) Zc)) ?_
   refine st ?_
   refine AWP.seq ?_
   obtain ⟨c80, Zr9, hF⟩ := bind_some hF
   obtain ⟨c82, ZhO, hF⟩ := bind_some hF
   refine AWP.cutN (fun T => ∃ r, WS r T ⟨[(2, .c none (.v (.bool c82)))], []⟩) ?_ (fun T hw => ?_)
   ·refine ns ?_
    refine Zm true (fun Zkw => ?_) (fun Zkw => ?_)
    ·have Zr9 := ift Zkw Zr9
     obtain ⟨r79, ZCS, Zr9⟩ := bind_some Zr9
     (conv => whnf)
     refine st ?_
     refine e3 ?_
     refine st ?_
     refine cm (Zj.weak (rn []) (ZjH r77.1 r78.1 _ ZCS) rfl (WS.mk (tc (tc Zb)) Zc)) ?_
     refine st ?_
     obtain rfl := Zg Zr9
     refine st ?_
     refine Zm true (fun ZpQ => ?_) (fun ZpQ => ?_)
     ·have ZhO := ift (And.intro Zkw ZpQ) ZhO
      obtain ⟨r81, ZAA, ZhO⟩ := bind_some ZhO
      (conv => whnf)
      refine st ?_
      refine e3 ?_
      refine st ?_
      refine cm (Zj.weak (rn []) (Zdh _ ZAA) rfl (WS.mk Zb Zc)) ?_
      refine st ?_
      obtain rfl := Zg ZhO
      refine st ?_
      exact wx (WS.mk (Zd (Zr (web (And.intro Zkw ZpQ))) Zb) Zc)
     ·have ZhO := ife (And.intro Zkw ZpQ) ZhO
      (conv => whnf)
      obtain rfl := Zg ZhO
      refine st ?_
      exact wx (WS.mk (Zd (Zr (web (And.intro Zkw ZpQ))) Zb) Zc)
    ·have Zr9 := ife Zkw Zr9
     (conv => whnf)
     obtain rfl := Zg Zr9
     have ZhO := ife Zkw ZhO
     obtain rfl := Zg ZhO
     refine st ?_
     exact wx (WS.mk (Zd (Zr (web Zkw)) Zb) Zc)
   obtain ⟨r0, hw⟩ := hw
   (conv => whnf)
   refine AWP.weak r0 hw ?_
   obtain rfl := Zg hF
   refine ns ?_
   refine Exists.intro [] ?_
   refine st ?_
   exact wx (WS.mk (tc Zb) Zc)

def ZcB (pairs : (List Zl)) : Option (Bool) :=
 ZaD pairs ([] : List Za) 0
def ZcB.M (pairs : (List Zl)) (r : Bool) : Prop :=
 Zj Tryz.prog 4 [.c none (.sl (pairs.map Zl.cells))] [] (fun d b => d = .c none (.v (.bool r)) ∧ b = [])
theorem ZlH (pairs : (List Zl)) (r : Bool) (hF : ZcB pairs = some r) : ZcB.M pairs r := by
 unfold ZcB at hF
 unfold ZcB.M
 refine en Tryz.func4 ?_
 refine AWP.seq ?_
 refine ns ?_
 refine AWP.seq ?_
 refine ns ?_
 refine Exists.intro _ (And.intro (ZY (f := Za.cells)) ?_)
 refine st ?_
 refine AWP.seq ?_
 refine AWP.seq ?_
 refine ns ?_
 refine AWP.block ?_
 refine AWP.loop ?_
 refine AWL.weak (rn [(9, 3)]) ?_ (Zj6 pairs ([] : List Za) 0 _ hF)
 exact (WS.mk (tc (Zd (Zam rfl (WE.refl _)) (tc Zb))) Zc)

mutual
def ZU (Zdk : ((List Ze) × Int)) (i_9 : Nat) : Option (Bool) :=
 if (decide (((i_9 : Nat) : Int) < ((Zdk.1.length : Nat) : Int))) = true then
 (Zdk.1[i_9]?) >>= fun Zxb =>
 Zdr Zxb.fType >>= fun Zcq =>
 ZZ Zdk i_9 Zcq 0
 else
 Zau >>= fun ZB4 =>
 some ZB4
 partial_fixpoint
def ZZ (Zdk : ((List Ze) × Int)) (i_9 : Nat) (Zcq : ((List ByteArray))) (ZeQ : Nat) : Option (Bool) :=
 if (decide (((ZeQ : Nat) : Int) < ((Zcq.length : Nat) : Int))) = true then
 (Zcq[ZeQ]?) >>= fun ZfL =>
 Z0 Zdk i_9 ZfL 0 Zcq ZeQ Zdk.1
 else
 ZU Zdk (i_9 + 1)
 partial_fixpoint
def Z0 (Zdk : ((List Ze) × Int)) (i_9 : Nat) (ZfL : ByteArray) (ZkO : Nat) (Zcq : ((List ByteArray))) (ZeQ : Nat) (ZeD : (List Ze)) : Option (Bool) :=
 (match ZeD with
 | ZwQ :: Zwn =>
 if (ZwQ.fName.toList == ZfL.toList) = true then
 some false
 else
 Z0 Zdk i_9 ZfL (ZkO + 1) Zcq ZeQ Zwn
 | [] =>
 ZZ Zdk i_9 Zcq (ZeQ + 1))
 partial_fixpoint
end
def ZU.M (Zdk : ((List Ze) × Int)) (i_9 : Nat) (r : Bool) : Prop :=
 AWL Tryz.prog 81 (Code.sub (Zq Tryz.f5) [1, 1, 1, 1, 1, 0, 1, 0, 0]) (Code.cont Tryz.prog 81 (Zq Tryz.f5) [1, 1, 1, 1, 1, 0, 1, 0] (ZbW tab Tryz.f5.results (ZbY (.c none (.v (.bool r))) []))) ⟨[(5, .c none (.sl (Zdk.1.map Ze.cells))), (9, .c none (.v (.int .i64 ((i_9 : Nat) : Int))))], []⟩
def ZZ.M (Zdk : ((List Ze) × Int)) (i_9 : Nat) (Zcq : ((List ByteArray))) (ZeQ : Nat) (r : Bool) : Prop :=
 Zdk.1.length ≤ maxLen → i_9 < Zdk.1.length → Zcq.length ≤ maxLen → AWL Tryz.prog 81 (Code.sub (Zq Tryz.f5) [1, 1, 1, 1, 1, 0, 1, 0, 0, 1, 0, 0, 1, 0, 0]) (Code.cont Tryz.prog 81 (Zq Tryz.f5) [1, 1, 1, 1, 1, 0, 1, 0, 0, 1, 0, 0, 1, 0] (ZbW tab Tryz.f5.results (ZbY (.c none (.v (.bool r))) []))) ⟨[(5, .c none (.sl (Zdk.1.map Ze.cells))), (9, .c none (.v (.int .i64 ((i_9 : Nat) : Int)))), (60, .c (some (60, 9)) (.sl (Zcq.map c_S))), (61, .c none (.v (.int .i64 ((Zcq.length : Nat) : Int)))), (62, .c none (.v (.int .i64 ((ZeQ : Nat) : Int))))], []⟩
def Z0.M (Zdk : ((List Ze) × Int)) (i_9 : Nat) (ZfL : ByteArray) (ZkO : Nat) (Zcq : ((List ByteArray))) (ZeQ : Nat) (ZeD : (List Ze)) (r : Bool) : Prop :=
 ∀ ZoP : List Ze, Zdk.1 = ZoP ++ ZeD → ZkO = ZoP.length → Zdk.1.length ≤ maxLen → i_9 < Zdk.1.length → Zcq.length ≤ maxLen → ZeQ < Zcq.length → AWL Tryz.prog 81 (Code.sub (Zq Tryz.f5) [1, 1, 1, 1, 1, 0, 1, 0, 0, 1, 0, 0, 1, 0, 0, 1, 1, 0, 0, 1, 1, 0, 0]) (Code.cont Tryz.prog 81 (Zq Tryz.f5) [1, 1, 1, 1, 1, 0, 1, 0, 0, 1, 0, 0, 1, 0, 0, 1, 1, 0, 0, 1, 1, 0] (ZbW tab Tryz.f5.results (ZbY (.c none (.v (.bool r))) []))) ⟨[(5, .c none (.sl (Zdk.1.map Ze.cells))), (9, .c none (.v (.int .i64 ((i_9 : Nat) : Int)))), (11, .c none (.v (.string ZfL))), (12, .c none (.v (.int .i64 ((ZkO : Nat) : Int)))), (60, .c (some (60, 9)) (.sl (Zcq.map c_S))), (61, .c none (.v (.int .i64 ((Zcq.length : Nat) : Int)))), (62, .c none (.v (.int .i64 ((ZeQ : Nat) : Int))))], []⟩
theorem Zd2 (Zdk : ((List Ze) × Int)) : (∀ (i_9 : Nat), ∀ r, ZU Zdk i_9 = some r → ZU.M Zdk i_9 r) ∧ (∀ (i_9 : Nat) (Zcq : ((List ByteArray))) (ZeQ : Nat), ∀ r, ZZ Zdk i_9 Zcq ZeQ = some r → ZZ.M Zdk i_9 Zcq ZeQ r) ∧ (∀ (i_9 : Nat) (ZfL : ByteArray) (ZkO : Nat) (Zcq : ((List ByteArray))) (ZeQ : Nat) (ZeD : (List Ze)), ∀ r, Z0 Zdk i_9 ZfL ZkO Zcq ZeQ ZeD = some r → Z0.M Zdk i_9 ZfL ZkO Zcq ZeQ ZeD r) := by
 refine ZU.mutual_partial_correctness Zdk (fun i_9 r => ZU.M Zdk i_9 r) (fun i_9 Zcq ZeQ r => ZZ.M Zdk i_9 Zcq ZeQ r) (fun i_9 ZfL ZkO Zcq ZeQ ZeD r => Z0.M Zdk i_9 ZfL ZkO Zcq ZeQ ZeD r) ?_ ?_ ?_
 ·intro lazyclaw18_UnifySolves_l2' Zck i_9 r hF
  have Zd7 := fun (_r882 : ((List Ze) × Int)) (i_9 : Nat) (Zcq : ((List ByteArray))) (ZeQ : Nat) => Zck i_9 Zcq ZeQ
  clear Zck
  unfold ZU.M
  refine AWL.step ?_
  refine AWP.seq ?_
  refine AWP.seq ?_
  refine ns ?_
  intro hlen1252
  (try rw [List.length_map] at hlen1252)
  (try rw [List.length_map])
  refine st ?_
  refine nw ?_
  refine Zi hF (fun Zza hF => ?_) (fun Zza hF => ?_)
  ·have Zop := ZpF Zza
   refine nw ?_
   refine AWP.seq ?_
   refine AWP.block ?_
   refine AWP.seq ?_
   obtain ⟨Zxb, ZCD, hF⟩ := bind_some hF
   obtain ⟨Zcq, ZDB, hF⟩ := bind_some hF
   refine nn ?_
   refine sr (Zab (f := Ze.cells) (Ze.cells_eq Zxb) ZCD) ?_
   refine st ?_
   refine e3 ?_
   refine st ?_
   refine cm (Zj.weak (rn []) (Zoo Zxb.fType _ ZDB) rfl (WS.mk (Zd (Zt (lc (lc (lc (lc Zo))))) Zb) Zc)) ?_
   refine st ?_
   intro hlen1256
   (try rw [List.length_map] at hlen1256)
   (try rw [List.length_map])
   refine st ?_
   refine AWP.block ?_
   refine AWP.loop ?_
   refine AWL.weak (rn [(60, 60)]) ?_ (Zd7 Zdk i_9 Zcq 0 _ hF hlen1252 Zop hlen1256)
   exact (WS.mk (tc (tc (Zd (Zam rfl (WE.refl _)) (tc (tc Zb))))) Zc)
  ·refine nw ?_
   refine AWP.seq ?_
   obtain ⟨ZB4, ZCs, hF⟩ := bind_some hF
   refine ns ?_
   refine e3 ?_
   refine st ?_
   refine cm (Zj.weak (rn []) (Zdh _ ZCs) rfl (WS.mk Zb Zc)) ?_
   refine st ?_
   obtain rfl := Zg hF
   refine ns ?_
   refine Exists.intro [] ?_
   refine st ?_
   exact wx (WS.mk (tc Zb) Zc)
 ·intro lazyclaw18_UnifySolves_l1' lazyclaw18_UnifySolves_l3' Zfj Zch i_9 Zcq ZeQ r hF
  have ZiO := fun (_r882 : ((List Ze) × Int)) (i_9 : Nat) => Zfj i_9
  clear Zfj
  have Zd8 := fun (_r882 : ((List Ze) × Int)) (i_9 : Nat) (ZfL : ByteArray) (ZkO : Nat) (Zcq : ((List ByteArray))) (ZeQ : Nat) (ZeD : (List Ze)) => Zch i_9 ZfL ZkO Zcq ZeQ ZeD
  clear Zch
  unfold ZZ.M
  intro hlen1252 Zop hlen1256
  refine AWL.step ?_
  refine AWP.seq ?_
  refine ns ?_
  refine AWP.seq ?_
  refine nw ?_
  refine Zi hF (fun Zzw hF => ?_) (fun Zzw hF => ?_)
  ·have Zta := ZpF Zzw
   refine nw ?_
   refine AWP.seq ?_
   refine AWP.block ?_
   refine AWP.seq ?_
   obtain ⟨ZfL, ZCY, hF⟩ := bind_some hF
   refine nn ?_
   refine sr (Zab (f := c_S) rfl ZCY) ?_
   refine st ?_
   refine AWP.seq ?_
   refine ns ?_
   refine AWP.block ?_
   refine AWP.loop ?_
   refine AWL.weak (rn [(60, 60)]) ?_ (Zd8 Zdk i_9 ZfL 0 Zcq ZeQ Zdk.1 _ hF ([]) rfl rfl hlen1252 Zop hlen1256 Zta)
   exact (WS.mk (tc (tc (tc (tc (Zd (Zam rfl (WE.refl _)) (tc (tc Zb))))))) Zc)
  ·refine nw ?_
   refine ns ?_
   refine AWL.weak (rn []) ?_ (ZiO Zdk (i_9 + 1) _ hF)
   exact (WS.mk (tc (Zd (Zr (Zdf (ZV hlen1252 Zop))) Zb)) Zc)
 ·intro lazyclaw18_UnifySolves_l2' lazyclaw18_UnifySolves_l3' Zck Zch i_9 ZfL ZkO Zcq ZeQ ZeD r hF
  have Zd7 := fun (_r882 : ((List Ze) × Int)) (i_9 : Nat) (Zcq : ((List ByteArray))) (ZeQ : Nat) => Zck i_9 Zcq ZeQ
  clear Zck
  have Zd8 := fun (_r882 : ((List Ze) × Int)) (i_9 : Nat) (ZfL : ByteArray) (ZkO : Nat) (Zcq : ((List ByteArray))) (ZeQ : Nat) (ZeD : (List Ze)) => Zch i_9 ZfL ZkO Zcq ZeQ ZeD
  clear Zch
  unfold Z0.M
  intro ZoP ZxD Zxu hlen1252 Zop hlen1256 Zta
  refine AWL.step ?_
  refine AWP.seq ?_
  refine AWP.seq ?_
  refine ns ?_
  intro hlen1316
  (try rw [List.length_map] at hlen1316)
  (try rw [List.length_map])
  refine st ?_
  refine nw ?_
  refine ZN ZxD Zxu (fun ZwQ Zwn ZvC ZCP ZC4 => ?_) (fun ZvC => ?_)
  ·subst ZvC
   refine nw ?_
   refine AWP.seq ?_
   refine AWP.block ?_
   refine AWP.seq ?_
   refine nn ?_
   refine sr (Zab (f := Ze.cells) (Ze.cells_eq ZwQ) ZCP) ?_
   refine st ?_
   refine nw ?_
   refine Zi hF (fun ZDA hF => ?_) (fun ZDA hF => ?_)
   ·refine AWP.seq ?_
    refine ns ?_
    obtain rfl := Zg hF
    refine ns ?_
    refine Exists.intro [] ?_
    refine st ?_
    exact wx (WS.mk (tc Zb) Zc)
   ·refine nw ?_
    refine ns ?_
    refine AWL.weak (rn [(60, 60)]) ?_ (Zd8 Zdk i_9 ZfL (ZkO + 1) Zcq ZeQ Zwn _ hF (ZoP ++ [ZwQ]) (by rw [ZxD]; simp) (by rw [Zxu]; simp) hlen1316 Zop hlen1256 Zta)
    exact (WS.mk (tc (tc (tc (Zd (Zr (Zdf (ZV hlen1316 ZC4))) (Zd (Zam rfl (WE.refl _)) (tc (tc Zb))))))) Zc)
  ·subst ZvC
   refine nw ?_
   refine ns ?_
   refine AWL.weak (rn [(60, 60)]) ?_ (Zd7 Zdk i_9 Zcq (ZeQ + 1) _ hF hlen1316 Zop hlen1256)
   exact (WS.mk (tc (tc (Zd (Zam rfl (WE.refl _)) (tc (Zd (Zr (Zdf (ZV hlen1256 Zta))) Zb))))) Zc)
theorem ZiM : ∀ (Zdk : ((List Ze) × Int)) (i_9 : Nat), ∀ r, ZU Zdk i_9 = some r → ZU.M Zdk i_9 r := fun Zdk i_9 => (Zd2 Zdk).1 i_9
theorem lazyclaw18_UnifySolves_l2_ok : ∀ (Zdk : ((List Ze) × Int)) (i_9 : Nat) (Zcq : ((List ByteArray))) (ZeQ : Nat), ∀ r, ZZ Zdk i_9 Zcq ZeQ = some r → ZZ.M Zdk i_9 Zcq ZeQ r := fun Zdk i_9 Zcq ZeQ => (Zd2 Zdk).2.1 i_9 Zcq ZeQ
theorem lazyclaw18_UnifySolves_l3_ok : ∀ (Zdk : ((List Ze) × Int)) (i_9 : Nat) (ZfL : ByteArray) (ZkO : Nat) (Zcq : ((List ByteArray))) (ZeQ : Nat) (ZeD : (List Ze)), ∀ r, Z0 Zdk i_9 ZfL ZkO Zcq ZeQ ZeD = some r → Z0.M Zdk i_9 ZfL ZkO Zcq ZeQ ZeD r := fun Zdk i_9 ZfL ZkO Zcq ZeQ ZeD => (Zd2 Zdk).2.2 i_9 ZfL ZkO Zcq ZeQ ZeD

def ZbR (a : Za) (b : Za) : Option (Bool) :=
 ZbI a b >>= fun Zdk =>
 Zb9 ([a, b]) >>= fun ZDc =>
 if ((!ZDc) || (Zdk.2 != 0)) = true then
 Zau >>= fun ZEH =>
 some ZEH
 else
 Za2 Zdk.1 a >>= fun ZBC =>
 Za2 Zdk.1 b >>= fun ZBF =>
 (if ((ZBC.fOp != 0) && (ZBF.fOp != 0)) = true then Zcc ZBC ZBF >>= fun ZF8 =>
 some (!ZF8) else some false) >>= fun c896 =>
 if c896 = true then
 some false
 else
 ZU Zdk 0
def ZbR.M (a : Za) (b : Za) (r : Bool) : Prop :=
 Zj Tryz.prog 5 [.agg [.v (.int .i64 a.fOp), .v (.string a.fName), .sl (a.fBound.fArgs.map Zk.cells), .sl (a.fKids.map Za.cells)], .agg [.v (.int .i64 b.fOp), .v (.string b.fName), .sl (b.fBound.fArgs.map Zk.cells), .sl (b.fKids.map Za.cells)]] [] (fun d b => d = .c none (.v (.bool r)) ∧ b = [])
theorem Zj2 (a : Za) (b : Za) (r : Bool) (hF : ZbR a b = some r) : ZbR.M a b r := by
 unfold ZbR at hF
 unfold ZbR.M
 refine en Tryz.func5 ?_
 refine AWP.seq ?_
 refine ns ?_
 refine AWP.seq ?_
 obtain ⟨Zdk, ZGk, hF⟩ := bind_some hF
 refine ns ?_
 refine e3 ?_
 refine st ?_
 refine cm (Zj.weak (rn []) (ZfZ a b _ ZGk) rfl (WS.mk (Zd (Zt (lc (lc (lc (lc Zo))))) (Zd (Zt (lc (lc (lc (lc Zo))))) Zb)) Zc)) ?_
 refine st ?_
 refine AWP.seq ?_
 refine AWP.seq ?_
 obtain ⟨ZDc, ZEu, hF⟩ := bind_some hF
 refine AWP.cutN (fun T => ∃ r, WS r T ⟨[(2, .ptr 2 0), (3, .ptr 3 0), (5, .c none (.sl (Zdk.1.map Ze.cells))), (27, .c none (.v (.bool ((!ZDc) || (Zdk.2 != 0)))))], [(2, [(none, .v (.int .i64 a.fOp)), (none, .v (.string a.fName)), (none, .sl (a.fBound.fArgs.map Zk.cells)), (none, .sl (a.fKids.map Za.cells))]), (3, [(none, .v (.int .i64 b.fOp)), (none, .v (.string b.fName)), (none, .sl (b.fBound.fArgs.map Zk.cells)), (none, .sl (b.fKids.map Za.cells))])]⟩) ?_ (fun T hw => ?_)
 ·refine ns ?_
  refine Exists.intro _ (And.intro (Zbt (f := Za.cells) (ZdA (Za.cells_eq a) (lc (lc (lc (lc Zo))))) (Zbt (f := Za.cells) (ZdA (Za.cells_eq b) (lc (lc (lc (lc Zo))))) (ZY (f := Za.cells)))) ?_)
  refine st ?_
  refine Exists.intro [21] (Exists.intro [] (Exists.intro [] ?_))
  refine st ?_
  refine cm (Zj.weak (rn []) (Zgr ([a, b]) _ ZEu) rfl (WS.mk (tc Zb) Zc)) ?_
  refine st ?_
  refine Zm false (fun Zz5 => ?_) (fun Zz5 => ?_)
  ·(conv => whnf)
   refine st ?_
   exact wx (WS.mk (tp (tp (tc (Zd (Zr (web Zz5)) Zb)))) (Zf rfl (cc (cc (cc (cc Zh)))) (Zf rfl (cc (cc (cc (cc Zh)))) Zc)))
  ·(conv => whnf)
   refine st ?_
   exact wx (WS.mk (tp (tp (tc (Zd (Zr (web Zz5)) Zb)))) (Zf rfl (cc (cc (cc (cc Zh)))) (Zf rfl (cc (cc (cc (cc Zh)))) Zc)))
 obtain ⟨r0, hw⟩ := hw
 (conv => whnf)
 refine AWP.weak r0 hw ?_
 refine nw ?_
 refine Zi hF (fun ZFh hF => ?_) (fun ZFh hF => ?_)
 ·refine AWP.seq ?_
  obtain ⟨ZEH, ZGi, hF⟩ := bind_some hF
  refine ns ?_
  refine e3 ?_
  refine st ?_
  refine cm (Zj.weak (rn []) (Zdh _ ZGi) rfl (WS.mk Zb Zc)) ?_
  refine st ?_
  obtain rfl := Zg hF
  refine ns ?_
  refine Exists.intro [] ?_
  refine st ?_
  exact wx (WS.mk (tc Zb) Zc)
 ·refine nw ?_
  refine AWP.seq ?_
  obtain ⟨ZBC, ZEI, hF⟩ := bind_some hF
  obtain ⟨ZBF, ZGv, hF⟩ := bind_some hF
  refine nn ?_
  refine Or.inl (Exists.intro 8 (Exists.intro [[], [], [], [], [], [], [7], [8]] (Exists.intro [([29, 30, 31, 32, 33, 34, 7, 8], [7, 8], []), ([29, 30, 31, 32, 33, 34, 7, 8], [7, 8], []), ([31, 32, 33, 34, 7, 8], [7, 8], []), ([29, 30, 31, 32, 33, 34, 7, 8], [7, 8], []), ([29, 30, 31, 32, 33, 34, 7, 8], [7, 8], []), ([34, 7, 8], [7, 8], []), ([29, 30, 31, 32, 33, 34, 7, 8], [8], [7]), ([29, 30, 31, 32, 33, 34, 7, 8], [7], [8])] (Exists.intro [29, 30, 31, 32, 33, 34, 7, 8] (And.intro (by decide +kernel) ?_)))))
  refine dp ?_
  refine dp ?_
  (refine st ?_; apply Exists.intro; apply Exists.intro; apply And.intro; (focus ((conv => whnf); refine Exists.intro [] ?_; (conv => whnf); refine And.intro rfl ?_; (conv => whnf); refine Zj.mono (Zj.weak (rn []) (Ze4 Zdk.1 a _ ZEI) rfl (WS.mk (tc (Zd (Zt (lc (lc (lc (lc Zo))))) Zb)) Zc)) ?_; rintro d b ⟨rfl, rfl⟩; exact And.intro rfl (And.intro rfl rfl))); apply And.intro; (focus exact rfl); (conv => whnf))
  refine dp ?_
  refine dp ?_
  (refine st ?_; apply Exists.intro; apply Exists.intro; apply And.intro; (focus ((conv => whnf); refine Exists.intro [] ?_; (conv => whnf); refine And.intro rfl ?_; (conv => whnf); refine Zj.mono (Zj.weak (rn []) (Ze4 Zdk.1 b _ ZGv) rfl (WS.mk (tc (Zd (Zt (lc (lc (lc (lc Zo))))) Zb)) Zc)) ?_; rintro d b ⟨rfl, rfl⟩; exact And.intro rfl (And.intro rfl rfl))); apply And.intro; (focus exact rfl); (conv => whnf))
  refine dp ?_
  refine dp ?_
  refine st ?_
  refine AWP.seq ?_
  refine AWP.seq ?_
  obtain ⟨c896, Zmx, hF⟩ := bind_some hF
  refine AWP.cutN (fun T => ∃ r, WS r T ⟨[(5, .c none (.sl (Zdk.1.map Ze.cells))), (48, .c none (.v (.bool c896)))], []⟩) ?_ (fun T hw => ?_)
  ·refine ns ?_
   refine Zm true (fun Zr1 => ?_) (fun Zr1 => ?_)
   ·(conv => whnf)
    refine st ?_
    refine Zm true (fun Zur => ?_) (fun Zur => ?_)
    ·have Zmx := ift (And.intro Zr1 Zur) Zmx
     obtain ⟨ZF8, ZF4, Zmx⟩ := bind_some Zmx
     (conv => whnf)
     refine st ?_
     refine e3 ?_
     refine st ?_
     refine cm (Zj.weak (rn []) (Zi2 ZBC ZBF _ ZF4) rfl (WS.mk (Zd (Zt (lc (lc (lc (lc Zo))))) (Zd (Zt (lc (lc (lc (lc Zo))))) Zb)) Zc)) ?_
     refine st ?_
     obtain rfl := Zg Zmx
     refine st ?_
     exact wx (WS.mk (tc (Zd (Zr (web (And.intro Zr1 Zur))) Zb)) Zc)
    ·have Zmx := ife (And.intro Zr1 Zur) Zmx
     (conv => whnf)
     obtain rfl := Zg Zmx
     refine st ?_
     exact wx (WS.mk (tc (Zd (Zr (web (And.intro Zr1 Zur))) Zb)) Zc)
   ·(conv => whnf)
    have Zmx := ife Zr1 Zmx
    obtain rfl := Zg Zmx
    refine st ?_
    exact wx (WS.mk (tc (Zd (Zr (web Zr1)) Zb)) Zc)
  obtain ⟨r0, hw⟩ := hw
  (conv => whnf)
  refine AWP.weak r0 hw ?_
  refine nw ?_
  refine Zi hF (fun ZFz hF => ?_) (fun ZFz hF => ?_)
  ·refine AWP.seq ?_
   refine ns ?_
   obtain rfl := Zg hF
   refine ns ?_
   refine Exists.intro [] ?_
   refine st ?_
   exact wx (WS.mk (tc Zb) Zc)
  ·refine nw ?_
   refine AWP.seq ?_
   refine AWP.seq ?_
   refine ns ?_
   refine AWP.block ?_
   refine AWP.loop ?_
   refine AWL.weak (rn []) ?_ (ZiM Zdk 0 _ hF)
   exact (WS.mk (tc (tc Zb)) Zc)

theorem Zn {α β : Type} (x : α) (f : α → Option β) : (some x >>= f) = f x := rfl
theorem Zde {p : Prop} [Decidable p] {β : Type} (f : Unit → Option β) (h : p) : (Z5 p >>= f) = f () := by unfold Z5; rw [if_pos h]; rfl
theorem ZfB {a b : ByteArray} (h : a.data.toList = b.data.toList) : a = b := by
 obtain ⟨⟨l⟩⟩ := a; obtain ⟨⟨k⟩⟩ := b
 simp only at h; rw [h]
theorem ZaZ (s : ByteArray) : s.toList = s.data.toList := by
 have key : ∀ (n i : Nat) (r : List UInt8), s.size - i = n → ByteArray.toList.loop s i r = r.reverse ++ s.data.toList.drop i := by
  intro n
  induction n with
  | zero =>
   intro i r h
   rw [ByteArray.toList.loop, if_neg (by omega), List.drop_eq_nil_of_le (by show s.data.toList.length ≤ i; simp; have : s.data.size = s.size := rfl; omega), List.append_nil]
  | succ n ih =>
   intro i r h
   have hi : i < s.size := by omega
   rw [ByteArray.toList.loop, if_pos hi, ih (i + 1) _ (by omega)]
   have hd : s.data.toList.drop i = s.data.toList[i]'(by simpa using hi) :: s.data.toList.drop (i + 1) := (List.drop_eq_getElem_cons (by simpa using hi))
   rw [hd]
   have : s.get! i = s.data.toList[i]'(by simpa using hi) := by
    have hi' : i < s.data.size := hi
    show s.data[i]! = _
    rw [getElem!_pos s.data i hi']; simp
   rw [this]; simp
 show ByteArray.toList.loop s 0 [] = _
 rw [key _ 0 [] rfl]; simp
theorem ZeB (s : ByteArray) (k : Nat) : btI s ((k : Nat) : Int) = s.data.toList[k]? := by
 unfold btI
 rw [if_pos (Int.natCast_nonneg k), Int.toNat_natCast]
 rcases Nat.lt_or_ge k s.size with h | h
 ·rw [getElem?_pos s k h, List.getElem?_eq_getElem (by simpa using h)]; rfl
 ·rw [getElem?_neg s k (by omega), List.getElem?_eq_none (by simpa using h)]
theorem sz (s : ByteArray) : s.data.toList.length = s.size := by simp
def Zie (c : UInt8) : Bool := decide (65 ≤ c.toNat) && decide (c.toNat ≤ 90)
def ZhI (c : UInt8) : Bool := decide (97 ≤ c.toNat) && decide (c.toNat ≤ 122)
def ZgO (c : UInt8) : Bool := decide (48 ≤ c.toNat) && decide (c.toNat ≤ 57)
def wst (c : UInt8) : Bool := Zie c || ZhI c || c.toNat == 95
def wch (c : UInt8) : Bool := wst c || ZgO c || c.toNat == 39
def Zul : List UInt8 := [33, 35, 36, 37, 38, 42, 43, 46, 47, 60, 61, 62, 63, 64, 92, 94, 124, 45, 126, 58]
def ZtU (c : UInt8) : Bool := Zul.contains c
theorem ZDn (c : UInt8) : Zen ((c.toNat : Nat) : Int) = some (Zie c) := by
 unfold Zen Zie; congr 2 <;> (apply decide_eq_decide.2; omega)
theorem ZCK (c : UInt8) : Zcx ((c.toNat : Nat) : Int) = some (Zie c) := by
 unfold Zcx Zie; congr 2 <;> (apply decide_eq_decide.2; omega)
theorem ZGB (c : UInt8) : Zfi ((c.toNat : Nat) : Int) = some (ZgO c) := by
 unfold Zfi ZgO; congr 2 <;> (apply decide_eq_decide.2; omega)
theorem ZBT (c : UInt8) : ZcZ ((c.toNat : Nat) : Int) = some (ZgO c) := by
 unfold ZcZ ZgO; congr 2 <;> (apply decide_eq_decide.2; omega)
theorem ZdV (a b : Nat) : (((a : Nat) : Int) == ((b : Nat) : Int)) = (a == b) := by
 rw [Bool.eq_iff_iff]; simp; omega
theorem ZBS (c : UInt8) : Zei ((c.toNat : Nat) : Int) = some (Zie c || ZhI c) := by
 unfold Zei
 rw [ZDn, Zn]
 unfold ZhI
 congr 3 <;> (apply decide_eq_decide.2; omega)
theorem ZBX (c : UInt8) : Zc1 ((c.toNat : Nat) : Int) = some (ZhI c || c.toNat == 95) := by
 unfold Zc1 ZhI
 rw [show (95 : Int) = ((95 : Nat) : Int) from rfl, ZdV]
 congr 3 <;> (apply decide_eq_decide.2; omega)
theorem Zi8 {l : List UInt8} {k : Nat} {y : UInt8} (h : l[k]? = some y) : l.drop k = y :: l.drop (k + 1) := by
 obtain ⟨h1, h2⟩ := List.getElem?_eq_some_iff.1 h
 rw [List.drop_eq_getElem_cons h1, h2]
theorem ZAt (s : ByteArray) (hs : s.size ≤ 1000000) : ∀ (d k : Nat), s.size - k = d → Zdm s k = some ((s.data.toList.drop k).all wch) := by
 intro d
 induction d with
 | zero =>
  intro k hk
  rw [Zdm, if_neg (by simp; omega), List.drop_eq_nil_of_le (by rw [sz]; omega)]; rfl
 | succ d ih =>
  intro k hk
  have hlt : k < s.size := by omega
  obtain ⟨y, hy⟩ : ∃ y, s.data.toList[k]? = some y := ⟨_, List.getElem?_eq_getElem (by rw [sz]; exact hlt)⟩
  rw [Zdm, if_pos (by simpa using hlt), ZeB, hy, Zn, ZBS, Zn, ZGB, Zi8 hy, List.all_cons]
  have h1 : (if (!(Zie y || ZhI y)) = true then some (ZgO y) >>= fun r35 => some (!r35) else some false) = some (!(Zie y || ZhI y) && !(ZgO y)) := by
   cases (Zie y || ZhI y) <;> rfl
  rw [h1, Zn]
  have h2 : ((((!(Zie y || ZhI y) && !(ZgO y)) && (((y.toNat : Nat) : Int) != 95)) && (((y.toNat : Nat) : Int) != 39)) = true) ↔ wch y = false := by
   unfold wch wst
   rw [show (((y.toNat : Nat) : Int) != 95) = !(y.toNat == 95) from by rw [bne, show (95 : Int) = ((95 : Nat) : Int) from rfl, ZdV], show (((y.toNat : Nat) : Int) != 39) = !(y.toNat == 39) from by rw [bne, show (39 : Int) = ((39 : Nat) : Int) from rfl, ZdV]]
   cases Zie y <;> cases ZhI y <;> cases ZgO y <;> cases (y.toNat == 95) <;> cases (y.toNat == 39) <;> simp
  by_cases hw : wch y = false
  ·rw [if_pos (h2.2 hw), hw]; rfl
  ·rw [if_neg (fun h => hw (h2.1 h)), Zde _ (by omega), ih (k + 1) (by omega)]
   simp only [Bool.not_eq_false] at hw
   rw [hw]; rfl
def ZhX (l : List UInt8) : Bool := match l with
 | [] => false
 | c :: r => decide (r.length < 64) && wst c && l.all wch
theorem Zh7 (c : UInt8) (r : List UInt8) : ZhX (c :: r) = (decide (r.length < 64) && wst c && (c :: r).all wch) := rfl
theorem Znu (s : ByteArray) : (s.toList == (ByteArray.mk #[]).toList) = decide (s.size = 0) := by
 rw [Bool.eq_iff_iff]
 rw [beq_iff_eq, ZaZ, ZaZ, decide_eq_true_iff, ← sz]
 constructor
 ·intro h; rw [h]; rfl
 ·intro h; exact List.eq_nil_of_length_eq_zero h
theorem Zwd (s : ByteArray) : Zet s = some (ZhX s.data.toList) := by
 unfold Zet
 rw [Znu]
 cases hl : s.data.toList with
 | nil =>
  have h0 : s.size = 0 := by rw [← sz, hl]; rfl
  rw [if_pos (by simp [h0])]; rfl
 | cons c r =>
  have h0 : s.size = r.length + 1 := by rw [← sz, hl]; rfl
  by_cases h64 : s.size > 64
  ·rw [if_pos (by simp; omega), Zn, if_pos rfl]
   rw [Zh7, show decide (r.length < 64) = false from decide_eq_false (by omega)]; rfl
  ·have hc : ¬ ((decide (s.size = 0) || decide (((s.size : Nat) : Int) > 64)) = true) := by rw [Bool.or_eq_true, decide_eq_true_iff, decide_eq_true_iff]; omega
   rw [if_neg hc]
   have hb : btI s 0 = some c := by have := ZeB s 0; rw [hl] at this; exact this
   rw [hb]
   simp only [Zn, ZBS]
   rw [show (((c.toNat : Nat) : Int) != 95) = !(c.toNat == 95) from by rw [bne, show (95 : Int) = ((95 : Nat) : Int) from rfl, ZdV]]
   rw [Zh7, show decide (r.length < 64) = true from decide_eq_true (by omega)]
   cases hw : wst c with
   | false =>
    unfold wst at hw
    cases h1 : (Zie c || ZhI c) <;> rw [h1] at hw <;> simp_all
   | true =>
    have : (if (!(Zie c || ZhI c)) = true then some (!(c.toNat == 95)) else some false) = some false := by
     unfold wst at hw
     cases h1 : (Zie c || ZhI c) <;> rw [h1] at hw <;> simp_all
    rw [this, Zn, Zn, if_neg (by simp)]
    rw [ZAt s (by omega) _ 0 rfl, List.drop_zero, hl]; rfl
theorem Zg5 {s : ByteArray} (h : ZhX s.data.toList = true) : 0 < s.size ∧ s.size ≤ 64 := by
 rw [← sz]
 cases hl : s.data.toList with
 | nil => rw [hl] at h; cases h
 | cons c r =>
  rw [hl, Zh7, Bool.and_eq_true, Bool.and_eq_true, decide_eq_true_iff] at h
  simp only [List.length_cons]; omega
theorem Zzc (s : ByteArray) (hs : s.size ≤ 1000000) : ∀ (d k : Nat), s.size - k = d → ZbD s k = some ((s.data.toList.drop k).all wch) := by
 intro d
 induction d with
 | zero =>
  intro k hk
  rw [ZbD, if_neg (by simp; omega), List.drop_eq_nil_of_le (by rw [sz]; omega)]; rfl
 | succ d ih =>
  intro k hk
  have hlt : k < s.size := by omega
  obtain ⟨y, hy⟩ : ∃ y, s.data.toList[k]? = some y := ⟨_, List.getElem?_eq_getElem (by rw [sz]; exact hlt)⟩
  rw [ZbD, if_pos (by simpa using hlt), ZeB, hy]
  simp only [Zn, ZBX, ZCK, ZBT, Zi8 hy, List.all_cons]
  rw [show (((y.toNat : Nat) : Int) != 39) = !(y.toNat == 39) from by rw [bne, show (39 : Int) = ((39 : Nat) : Int) from rfl, ZdV]]
  have h1 : ((if (!(ZhI y || y.toNat == 95)) = true then some (!Zie y) else some false) >>= fun c51 =>
    (if c51 = true then some (!ZgO y) else some false) >>= fun c54 => (if c54 = true then some (!(y.toNat == 39)) else some false)) = some (!wch y) := by
   unfold wch wst
   cases Zie y <;> cases ZhI y <;> cases ZgO y <;> cases (y.toNat == 95) <;> cases (y.toNat == 39) <;> rfl
  have h2 : ∀ (f : Bool → Option Bool), ((if (!(ZhI y || y.toNat == 95)) = true then some (!Zie y) else some false) >>= fun c51 =>
    (if c51 = true then some (!ZgO y) else some false) >>= fun c54 => (if c54 = true then some (!(y.toNat == 39)) else some false) >>= f) = f (!wch y) := fun f => by
   unfold wch wst
   cases Zie y <;> cases ZhI y <;> cases ZgO y <;> cases (y.toNat == 95) <;> cases (y.toNat == 39) <;> rfl
  rw [h2]
  cases hw : wch y with
  | false => rfl
  | true =>
   simp only [Bool.not_true, Bool.false_eq_true, if_false, Bool.true_and]
   rw [Zde _ (by omega), ih (k + 1) (by omega)]
theorem ZDv (s : ByteArray) : ZdK s = some (ZhX s.data.toList) := by
 unfold ZdK
 cases hl : s.data.toList with
 | nil =>
  have h0 : s.size = 0 := by rw [← sz, hl]; rfl
  rw [if_pos (by simp [h0])]; rfl
 | cons c r =>
  have h0 : s.size = r.length + 1 := by rw [← sz, hl]; rfl
  by_cases h64 : s.size > 64
  ·rw [if_pos (by simp; omega), Zn, if_pos rfl]
   rw [Zh7, show decide (r.length < 64) = false from decide_eq_false (by omega)]; rfl
  ·rw [if_neg (by simp; omega)]
   have hb : btI s 0 = some c := by have := ZeB s 0; rw [hl] at this; exact this
   rw [hb]
   simp only [Zn, ZBX, ZCK]
   rw [Zh7, show decide (r.length < 64) = true from decide_eq_true (by omega)]
   have h2 : ((if (!(ZhI c || c.toNat == 95)) = true then some (!Zie c) else some false) >>= fun c12 => some c12) = some (!wst c) := by
    unfold wst
    cases Zie c <;> cases ZhI c <;> cases (c.toNat == 95) <;> rfl
   rw [h2, Zn]
   cases hw : wst c with
   | false => rfl
   | true =>
    simp only [Bool.not_true, Bool.false_eq_true, if_false]
    rw [Zzc s (by omega) _ 0 rfl, List.drop_zero, hl]; rfl
theorem Zo7 : ∀ (l : List UInt8) (c : UInt8), decide (Lib.indexByte l c ≥ 0) = l.contains c ∧ -1 ≤ Lib.indexByte l c
 | [], c => by simp [Lib.indexByte]
 | b :: l, c => by
  obtain ⟨h1, h2⟩ := Zo7 l c
  unfold Lib.indexByte
  by_cases hb : b == c
  ·rw [if_pos hb]
   have : c = b := (beq_iff_eq.1 hb).symm
   subst this
   simp
  ·rw [if_neg hb]
   have hc : ¬ c = b := fun e => hb (by simp [e])
   have hcon : (b :: l).contains c = l.contains c := by simp [hc]
   rw [hcon, ← h1]
   split
   ·rename_i h3
    have : Lib.indexByte l c = -1 := by simpa using h3
    rw [this]; simp
   ·rename_i h3
    have h4 : ¬ Lib.indexByte l c = -1 := by simpa using h3
    constructor
    ·apply decide_eq_decide.2; omega
    ·omega
theorem ZCq (c : UInt8) : Zd1 ((c.toNat : Nat) : Int) = some (ZtU c) := by
 unfold Zd1 strings_IndexByte
 rw [Zn]
 have h1 : ((c.toNat : Nat) : Int).toNat.toUInt8 = c := by rw [Int.toNat_natCast]; simp
 rw [h1, (Zo7 _ c).1]
 rfl
theorem ZzH (c : Int) (i_4 : Nat) : Zaa c i_4 = if (decide (((i_4 : Nat) : Int) < (((ByteArray.mk #[33, 35, 36, 37, 38, 42, 43, 46, 47, 60, 61, 62, 63, 64, 92, 94, 124, 45, 126, 58]).size : Nat) : Int))) = true then
  (btI (ByteArray.mk #[33, 35, 36, 37, 38, 42, 43, 46, 47, 60, 61, 62, 63, 64, 92, 94, 124, 45, 126, 58]) ((i_4 : Nat) : Int)) >>= fun y12 =>
  if (((y12.toNat : Nat) : Int) == c) = true then some true
  else Z5 (i_4 + 1 ≤ 9223372036854775807) >>= fun _ => Zaa c (i_4 + 1)
  else some false := by
 delta Zaa
 exact congrFun (Lean.Order.fix_eq _) i_4
theorem Zu4 (c : UInt8) (k : Nat) : Zaa ((c.toNat : Nat) : Int) k = if k < 20 then (Zul[k]? >>= fun y => if y.toNat == c.toNat then some true else (Z5 (k + 1 ≤ 9223372036854775807) >>= fun _ => Zaa ((c.toNat : Nat) : Int) (k + 1))) else some false := by
 have hs : (ByteArray.mk #[33, 35, 36, 37, 38, 42, 43, 46, 47, 60, 61, 62, 63, 64, 92, 94, 124, 45, 126, 58]).size = 20 := rfl
 have hl : (ByteArray.mk #[33, 35, 36, 37, 38, 42, 43, 46, 47, 60, 61, 62, 63, 64, 92, 94, 124, 45, 126, 58]).data.toList = Zul := rfl
 have hb := ZeB (ByteArray.mk #[33, 35, 36, 37, 38, 42, 43, 46, 47, 60, 61, 62, 63, 64, 92, 94, 124, 45, 126, 58]) k
 rw [hl] at hb
 rw [ZzH, hb, hs]
 generalize Zul[k]? = o
 by_cases h : k < 20
 ·rw [if_pos h, if_pos (decide_eq_true (by omega))]
  cases o with
  | none => rfl
  | some y => simp only [Zn, ZdV]
 ·rw [if_neg h, if_neg (by rw [decide_eq_true_iff]; omega)]
theorem Zuz : Zul.length = 20 := rfl
theorem ZAN (c : UInt8) : ∀ (d k : Nat), 20 - k = d → Zaa ((c.toNat : Nat) : Int) k = some ((Zul.drop k).contains c) := by
 intro d
 induction d with
 | zero =>
  intro k hk
  rw [Zu4, if_neg (by omega), List.drop_eq_nil_of_le (by rw [Zuz]; omega)]; rfl
 | succ d ih =>
  intro k hk
  obtain ⟨y, hy⟩ : ∃ y, Zul[k]? = some y := ⟨_, List.getElem?_eq_getElem (by rw [Zuz]; omega)⟩
  rw [Zu4, if_pos (by omega), hy, Zn, Zi8 hy]
  by_cases he : y = c
  ·subst he; simp
  ·have h1 : (y.toNat == c.toNat) = false := by simp; exact fun e => he (UInt8.toNat_inj.1 e)
   rw [h1, if_neg (by simp), Zde _ (by omega), ih (k + 1) (by omega)]
   have h2 : ¬ c = y := fun e => he e.symm
   simp [h2]
theorem ZD2 (c : UInt8) : ZcA ((c.toNat : Nat) : Int) = some (ZtU c) := by
 unfold ZcA; rw [ZAN c _ 0 rfl]; rfl
def cnt (l : List UInt8) : Nat := (l.filter fun c => c.toNat == 45).length
theorem cnt_le (l : List UInt8) : cnt l ≤ l.length := List.length_filter_le _ _
theorem ZvM (s : ByteArray) (hs : s.size ≤ 1000000) : ∀ (d k m : Nat), s.size - k = d → k ≤ s.size → m ≤ k → Zb7 s m k =
  some ((s.data.toList.drop k).all ZtU && (decide (s.size = 1) || decide (m + cnt (s.data.toList.drop k) < s.size))) := by
 intro d
 induction d with
 | zero =>
  intro k m hk hle hm
  have : k = s.size := by omega
  subst this
  rw [Zb7, if_pos (by simp), List.drop_eq_nil_of_le (by rw [sz]; omega)]
  have e1 : (((s.size : Nat) : Int) == 1) = decide (s.size = 1) := by rw [show (1 : Int) = ((1 : Nat) : Int) from rfl, ZdV, Bool.eq_iff_iff, beq_iff_eq, decide_eq_true_iff]
  rw [e1]
  have e2 : decide (((m : Nat) : Int) < ((s.size : Nat) : Int)) = decide (m + cnt ([] : List UInt8) < s.size) := decide_eq_decide.2 (by show _ ↔ m + 0 < s.size; omega)
  rw [e2]; rfl
 | succ d ih =>
  intro k m hk hle hm
  have hlt : k < s.size := by omega
  obtain ⟨y, hy⟩ : ∃ y, s.data.toList[k]? = some y := ⟨_, List.getElem?_eq_getElem (by rw [sz]; exact hlt)⟩
  have hne : ¬ ((((k : Nat) : Int) == ((s.size : Nat) : Int)) = true) := by rw [ZdV, beq_iff_eq]; omega
  rw [Zb7, if_neg hne, ZeB, hy]
  simp only [Zn, ZCq, Zi8 hy, List.all_cons]
  cases hc : ZtU y with
  | false => rfl
  | true =>
   rw [show (45 : Int) = ((45 : Nat) : Int) from rfl, ZdV]
   simp only [Bool.not_true, Bool.false_eq_true, if_false, Bool.true_and]
   cases h45 : (y.toNat == 45) with
   | true =>
    rw [if_pos rfl, Zde _ (by omega), Zde _ (by omega), ih (k + 1) (m + 1) (by omega) (by omega) (by omega)]
    have : cnt (y :: s.data.toList.drop (k + 1)) = cnt (s.data.toList.drop (k + 1)) + 1 := by unfold cnt; rw [List.filter_cons, if_pos h45]; rfl
    rw [this, show m + (cnt (s.data.toList.drop (k + 1)) + 1) = m + 1 + cnt (s.data.toList.drop (k + 1)) from by omega]
   | false =>
    rw [if_neg (by simp), Zde _ (by omega), ih (k + 1) m (by omega) (by omega) (by omega)]
    have : cnt (y :: s.data.toList.drop (k + 1)) = cnt (s.data.toList.drop (k + 1)) := by unfold cnt; rw [List.filter_cons, if_neg (by rw [h45]; simp)]
    rw [this]
theorem Zvs (s : ByteArray) (hs : s.size ≤ 1000000) : ∀ (d k m : Nat), s.size - k = d → k ≤ s.size → m ≤ k → ZaN s m k =
  some ((s.data.toList.drop k).all ZtU && (decide (s.size = 1) || decide (m + cnt (s.data.toList.drop k) < s.size))) := by
 intro d
 induction d with
 | zero =>
  intro k m hk hle hm
  have : k = s.size := by omega
  subst this
  rw [ZaN, if_neg (by rw [decide_eq_true_iff]; omega), List.drop_eq_nil_of_le (by rw [sz]; omega)]
  have e1 : (((s.size : Nat) : Int) == 1) = decide (s.size = 1) := by rw [show (1 : Int) = ((1 : Nat) : Int) from rfl, ZdV, Bool.eq_iff_iff, beq_iff_eq, decide_eq_true_iff]
  rw [e1]
  have e2 : decide (((m : Nat) : Int) < ((s.size : Nat) : Int)) = decide (m + cnt ([] : List UInt8) < s.size) := decide_eq_decide.2 (by show _ ↔ m + 0 < s.size; omega)
  rw [e2, Bool.or_comm]; rfl
 | succ d ih =>
  intro k m hk hle hm
  have hlt : k < s.size := by omega
  obtain ⟨y, hy⟩ : ∃ y, s.data.toList[k]? = some y := ⟨_, List.getElem?_eq_getElem (by rw [sz]; exact hlt)⟩
  rw [ZaN, if_pos (by rw [decide_eq_true_iff]; omega), ZeB, hy]
  simp only [Zn, ZD2, Zi8 hy, List.all_cons]
  cases hc : ZtU y with
  | false => rfl
  | true =>
   rw [show (45 : Int) = ((45 : Nat) : Int) from rfl, ZdV]
   simp only [Bool.not_true, Bool.false_eq_true, if_false, Bool.true_and]
   cases h45 : (y.toNat == 45) with
   | true =>
    rw [if_pos rfl, Zde _ (by omega), Zde _ (by omega), ih (k + 1) (m + 1) (by omega) (by omega) (by omega)]
    have : cnt (y :: s.data.toList.drop (k + 1)) = cnt (s.data.toList.drop (k + 1)) + 1 := by unfold cnt; rw [List.filter_cons, if_pos h45]; rfl
    rw [this, show m + (cnt (s.data.toList.drop (k + 1)) + 1) = m + 1 + cnt (s.data.toList.drop (k + 1)) from by omega]
   | false =>
    rw [if_neg (by simp), Zde _ (by omega), ih (k + 1) m (by omega) (by omega) (by omega)]
    have : cnt (y :: s.data.toList.drop (k + 1)) = cnt (s.data.toList.drop (k + 1)) := by unfold cnt; rw [List.filter_cons, if_neg (by rw [h45]; simp)]
    rw [this]
def ZeR (l : List UInt8) : Bool := decide (0 < l.length) && decide (l.length ≤ 64) && l.all ZtU && (decide (l.length = 1) || decide (cnt l < l.length))
theorem Zrx (s : ByteArray) : ZdU s = some (ZeR s.data.toList) := by
 unfold ZdU ZeR
 rw [Znu, sz]
 by_cases hc : (decide (s.size = 0) || decide (((s.size : Nat) : Int) > 64)) = true
 ·rw [if_pos hc]
  rw [Bool.or_eq_true, decide_eq_true_iff, decide_eq_true_iff] at hc
  rcases hc with hc | hc
  ·rw [show decide (0 < s.size) = false from decide_eq_false (by omega)]; rfl
  ·rw [show decide (s.size ≤ 64) = false from decide_eq_false (by omega), Bool.and_false]; rfl
 ·rw [if_neg hc]
  rw [Bool.or_eq_true, decide_eq_true_iff, decide_eq_true_iff] at hc
  rw [ZvM s (by omega) _ 0 0 rfl (by omega) (by omega), List.drop_zero, show decide (0 < s.size) = true from decide_eq_true (by omega), show decide (s.size ≤ 64) = true from decide_eq_true (by omega), Nat.zero_add]; rfl
theorem ZzM (s : ByteArray) : Zdd s = some (ZeR s.data.toList) := by
 unfold Zdd ZeR
 rw [sz]
 by_cases hc : (decide (((s.size : Nat) : Int) < 1) || decide (((s.size : Nat) : Int) > 64)) = true
 ·rw [if_pos hc]
  rw [Bool.or_eq_true, decide_eq_true_iff, decide_eq_true_iff] at hc
  rcases hc with hc | hc
  ·rw [show decide (0 < s.size) = false from decide_eq_false (by omega)]; rfl
  ·rw [show decide (s.size ≤ 64) = false from decide_eq_false (by omega), Bool.and_false]; rfl
 ·rw [if_neg hc]
  rw [Bool.or_eq_true, decide_eq_true_iff, decide_eq_true_iff] at hc
  rw [Zvs s (by omega) _ 0 0 rfl (by omega) (by omega), List.drop_zero, show decide (0 < s.size) = true from decide_eq_true (by omega), show decide (s.size ≤ 64) = true from decide_eq_true (by omega), Nat.zero_add]; rfl

def ZdE : List (List UInt8) := [[97, 115], [99, 97, 115, 101], [99, 108, 97, 115, 115], [100, 97, 116, 97], [100, 101, 114, 105, 118, 105, 110, 103], [100, 111], [101, 108, 115, 101], [104, 105, 100, 105, 110, 103], [105, 102], [105, 109, 112, 111, 114, 116], [105, 110], [105, 110, 102, 105, 120], [105, 110, 102, 105, 120, 108], [105, 110, 102, 105, 120, 114], [105, 110, 115, 116, 97, 110, 99, 101], [108, 101, 116], [109, 111, 100, 117, 108, 101], [111, 102], [113, 117, 97, 108, 105, 102, 105, 101, 100], [116, 104, 101, 110], [119, 104, 101, 114, 101], [95]]
def Zfp : List (List UInt8) := [[46, 46], [58, 58], [61], [92], [124], [60, 45], [45, 62], [64], [126], [61, 62]]
def Zwk (l : List UInt8) : List (List UInt8) → Option Bool
 | [] => some false
 | w :: ws => if (l == w) = true then some true else Zwk l ws
theorem Zm1 (l : List UInt8) : ∀ ws, Zwk l ws = some (ws.contains l)
 | [] => rfl
 | w :: ws => by
  unfold Zwk
  rw [Zm1 l ws, List.contains_cons]
  cases (l == w) <;> rfl
theorem Zlb (c : Bool) (x : Option Bool) : (if c = true then some c else x) = (if c = true then some true else x) := by cases c <;> rfl
theorem ZAy (c : Bool) (x y z : Option Bool) : (if c = true then (if c = true then x else y) else z) = (if c = true then x else z) := by cases c <;> rfl
theorem ZqA (c : Bool) : some c = (if c = true then some true else some false) := by cases c <;> rfl
theorem nk1 (x : Bool) : Zv x = some x := by cases x <;> rfl
theorem rk2 (x : Bool) : ZS x = some x := by cases x <;> rfl
theorem nsk (x : Bool) : ZT x = some x := by cases x <;> rfl
theorem rsk (x : Bool) : ZC x = some x := by cases x <;> rfl
theorem ZBY (s : ByteArray) : Zcn s = some (ZdE.contains s.data.toList) := by
 rw [← Zm1]
 unfold Zcn
 simp only [nk1, Zlb, ZaZ]
 rw [ZqA (s.data.toList == _)]
 rfl
theorem ZF3 (s : ByteArray) : Zcy s = some (ZdE.contains s.data.toList) := by
 rw [← Zm1]
 unfold Zcy ZP
 simp only [rk2, ZAy, Zlb, ZaZ]
 rw [ZqA (s.data.toList == _)]
 rfl
theorem ZAe (s : ByteArray) : ZbP s = some (Zfp.contains s.data.toList) := by
 rw [← Zm1]
 unfold ZbP
 simp only [nsk, Zlb, ZaZ]
 rw [ZqA (s.data.toList == _)]
 rfl
theorem ZCN (s : ByteArray) : Zbb s = some (Zfp.contains s.data.toList) := by
 rw [← Zm1]
 unfold Zbb
 simp only [rsk, Zlb, ZaZ]
 rw [ZqA (s.data.toList == _)]
 rfl
theorem Zyx {l : List UInt8} (h : ZdE.contains l = true) : ZhX l = true := by
 have h := List.contains_iff_mem.1 h
 have key : ∀ w ∈ ZdE, ZhX w = true := by decide
 exact key l h
theorem ZpU {l : List UInt8} (h : Zfp.contains l = true) : ZeR l = true := by
 have h := List.contains_iff_mem.1 h
 have key : ∀ w ∈ Zfp, ZeR w = true := by decide
 exact key l h
theorem ZtH : ∀ c : UInt8, ZtU c = true → wst c = false := by
 intro c h
 have h := List.contains_iff_mem.1 h
 have key : ∀ w ∈ Zul, wst w = false := by decide
 exact key c h
theorem ZiQ {l : List UInt8} (h : ZhX l = true) : ZeR l = false := by
 cases l with
 | nil => cases h
 | cons c r =>
  rw [Zh7, Bool.and_eq_true, Bool.and_eq_true] at h
  cases hs : ZtU c with
  | true => have := ZtH c hs; rw [h.1.2] at this; cases this
  | false => unfold ZeR; rw [List.all_cons, hs]; simp
def ZiJ (l : List UInt8) : Bool := match l with | [] => false | c :: _ => Zie c
def Zqp (l : List UInt8) : Bool := match l with | [] => false | c :: _ => c.toNat == 58
def ZdM (l : List UInt8) : Int :=
 if ZhX l = true then (if ZdE.contains l = true then 5 else if ZiJ l = true then 2 else 1)
 else if ZeR l = true then (if Zfp.contains l = true then 6 else if Zqp l = true then 4 else 3) else 0
theorem ZoA {s : ByteArray} (h : 0 < s.size) : ∃ c r, s.data.toList = c :: r ∧ btI s 0 = some c := by
 cases hl : s.data.toList with
 | nil => rw [← sz, hl] at h; cases h
 | cons c r => exact ⟨c, r, rfl, by have := ZeB s 0; rw [hl] at this; exact this⟩
theorem Zm9 {s : ByteArray} (h : ZeR s.data.toList = true) : 0 < s.size ∧ s.size ≤ 64 := by
 unfold ZeR at h
 simp only [Bool.and_eq_true, decide_eq_true_iff, sz] at h
 omega
theorem ZmU (s : ByteArray) : Zbv s = some (ZdM s.data.toList) := by
 unfold Zbv ZdM
 rw [ZDv, Zn]
 cases hw : ZhX s.data.toList with
 | true =>
  obtain ⟨c, r, hl, hb⟩ := ZoA (Zg5 hw).1
  rw [if_pos rfl, if_pos rfl, ZF3, Zn]
  cases ZdE.contains s.data.toList with
  | true => rfl
  | false =>
   rw [if_neg (by simp), if_neg (by simp), hb, Zn, ZCK, Zn, hl]
   show _ = some (if Zie c = true then 2 else 1)
   cases Zie c <;> rfl
 | false =>
  rw [if_neg (by simp), if_neg (by simp), ZzM, Zn]
  cases hs : ZeR s.data.toList with
  | true =>
   obtain ⟨c, r, hl, hb⟩ := ZoA (Zm9 hs).1
   rw [if_pos rfl, if_pos rfl, ZCN, Zn]
   cases Zfp.contains s.data.toList with
   | true => rfl
   | false =>
    rw [if_neg (by simp), if_neg (by simp), hb, Zn, show (58 : Int) = ((58 : Nat) : Int) from rfl, ZdV, hl]
    show _ = some (if (c.toNat == 58) = true then 4 else 3)
    cases (c.toNat == 58) <;> rfl
  | false => rfl
def Zia (l : List UInt8) : Bool := (ZhX l && !ZdE.contains l) || (ZeR l && !Zfp.contains l)
theorem ZuA (l : List UInt8) : ((((ZdM l == 1) || (ZdM l == 2)) || (ZdM l == 3)) || (ZdM l == 4)) = Zia l := by
 unfold ZdM Zia
 cases hw : ZhX l with
 | true => rw [ZiQ hw]; cases ZdE.contains l <;> cases ZiJ l <;> rfl
 | false => cases ZeR l <;> cases Zfp.contains l <;> cases Zqp l <;> rfl
theorem ZwP (s : ByteArray) : Zc2 s = some (Zia s.data.toList) := by
 unfold Zc2; rw [ZmU, Zn, ZuA]
theorem ZuJ (s : ByteArray) : Zeh s = some (Zia s.data.toList) := by
 unfold Zeh Zia
 rw [Zwd, Zn]
 cases hw : ZhX s.data.toList with
 | true =>
  rw [ZBY, Zrx, ZiQ hw]
  cases ZdE.contains s.data.toList <;> rfl
 | false =>
  rw [Zrx]
  cases ZeR s.data.toList with
  | true => rw [ZAe]; cases Zfp.contains s.data.toList <;> rfl
  | false => rfl
theorem ZxM (l : List UInt8) : (ZdM l != 2) = !(ZhX l && ZiJ l && !ZdE.contains l) := by
 unfold ZdM
 cases ZhX l <;> cases ZdE.contains l <;> cases ZiJ l <;> cases ZeR l <;> cases Zfp.contains l <;> cases Zqp l <;> rfl
theorem ZBt {l : List UInt8} (h : ZiJ l = true) : ZdE.contains l = false := by
 cases hr : ZdE.contains l with
 | false => rfl
 | true =>
  have hm := List.contains_iff_mem.1 hr
  have key : ∀ w ∈ ZdE, ZiJ w = false := by decide
  rw [key l hm] at h; cases h

def mkB (l : List UInt8) : ByteArray := ⟨l.toArray⟩
theorem Zey (l : List UInt8) : (mkB l).data.toList = l := by simp [mkB]
theorem mkB_self (s : ByteArray) : mkB s.data.toList = s := ZfB (Zey _)
theorem ZkW (l : List UInt8) : (mkB l).size = l.length := by rw [← sz, Zey]
theorem ZmE (a b : ByteArray) : (a ++ b).data.toList = a.data.toList ++ b.data.toList := by simp
def okJ (m n : List UInt8) : Bool := ZhX m && ZiJ m && Zia n
theorem Zrv {s : ByteArray} (h : Zia s.data.toList = true) : 0 < s.size ∧ s.size ≤ 64 := by
 unfold Zia at h
 rw [Bool.or_eq_true, Bool.and_eq_true, Bool.and_eq_true] at h
 rcases h with h | h
 ·exact Zg5 h.1
 ·exact Zm9 h.1
def Zsw (m n : ByteArray) : ByteArray := if okJ m.data.toList n.data.toList = true then (m ++ ByteArray.mk #[46]) ++ n else ByteArray.mk #[]
theorem Zpi : IntKind.i64.max = 9223372036854775807 := rfl
theorem Zrm (a b : ByteArray) : (a ++ b).size = a.size + b.size := by rw [← sz, ZmE, List.length_append, sz, sz]
theorem orT {α : Type} (Y : Option Bool) (G : Bool → Option α) : ((if true = true then some true else Y) >>= G) = G true := rfl
theorem orF {α : Type} (Y : Option Bool) (G : Bool → Option α) : ((if false = true then some true else Y) >>= G) = (Y >>= G) := rfl
theorem Zz3 {α : Type} (Y : Option Bool) (G : Bool → Option α) : ((if true = true then Y else some false) >>= G) = (Y >>= G) := rfl
theorem ZDP {α : Type} (Y : Option Bool) (G : Bool → Option α) : ((if false = true then Y else some false) >>= G) = G false := rfl
theorem ifT {α : Type} (a b : α) : (if true = true then a else b) = a := rfl
theorem ifF {α : Type} (a b : α) : (if false = true then a else b) = b := rfl
theorem ZAP {m n : ByteArray} (hm : m.size ≤ 64) (hn : n.size ≤ 64) : (Z5 (((m.size + (ByteArray.mk #[46]).size : Nat) : Int) ≤ IntKind.i64.max) >>= fun _ =>
  Z5 ((((m ++ (ByteArray.mk #[46])).size + n.size : Nat) : Int) ≤ IntKind.i64.max) >>= fun _ => some ((m ++ (ByteArray.mk #[46])) ++ n)) = some ((m ++ (ByteArray.mk #[46])) ++ n) := by
 have e : (ByteArray.mk #[46]).size = 1 := rfl
 have h1 : ((m.size + (ByteArray.mk #[46]).size : Nat) : Int) ≤ IntKind.i64.max := by rw [Zpi, e]; omega
 have h2 : (((m ++ (ByteArray.mk #[46])).size + n.size : Nat) : Int) ≤ IntKind.i64.max := by rw [Zpi, Zrm, e]; omega
 rw [Zde _ h1, Zde _ h2]
theorem ZD8 (m n : ByteArray) : ZfX m n = some (Zsw m n) := by
 unfold ZfX Zsw okJ
 rw [Zwd, Zn]
 cases hw : ZhX m.data.toList with
 | false => rw [Bool.not_false, orT, orT, Bool.false_and, Bool.false_and, ifT, ifF]
 | true =>
  obtain ⟨c, r, hl, hb⟩ := ZoA (Zg5 hw).1
  have h64 := Zg5 hw
  have hu : ZiJ m.data.toList = Zie c := by rw [hl]; rfl
  rw [Bool.not_true, orF, hb, Zn, ZDn, Zn, Zn, hu]
  cases Zie c with
  | false => rw [Bool.not_false, orT, Bool.and_false, Bool.false_and, ifT, ifF]
  | true =>
   rw [Bool.not_true, orF, ZuJ, Zn, Zn]
   cases hn : Zia n.data.toList with
   | false => rw [Bool.not_false, ifT, Bool.and_false, ifF]
   | true =>
    have h65 := Zrv hn
    rw [Bool.not_true, ifF, Bool.and_true, Bool.and_true, ifT]
    exact ZAP h64.2 h65.2
theorem ZDF (m n : ByteArray) : ZdJ m n = some (Zsw m n) := by
 unfold ZdJ Zsw okJ
 rw [ZmU, Zn, ZxM]
 cases hw : ZhX m.data.toList with
 | false => rw [show (!(false && ZiJ m.data.toList && !ZdE.contains m.data.toList)) = true from rfl, orT, show (false && ZiJ m.data.toList && Zia n.data.toList) = false from rfl, ifT, ifF]
 | true =>
  have h64 := Zg5 hw
  cases hu : ZiJ m.data.toList with
  | false => rw [show (!(true && false && !ZdE.contains m.data.toList)) = true from rfl, orT, show (true && false && Zia n.data.toList) = false from rfl, ifT, ifF]
  | true =>
   rw [ZBt hu, ZwP, Bool.and_true, Bool.not_false, Bool.and_true, Bool.not_true, orF, Zn, Zn]
   cases hn : Zia n.data.toList with
   | false => rw [Bool.not_false, ifT, Bool.and_false, ifF]
   | true =>
    have h65 := Zrv hn
    rw [Bool.not_true, ifF, Bool.and_true, ifT]
    exact ZAP h64.2 h65.2
theorem ZuB (m n : ByteArray) : ((Zsw m n).toList == (ByteArray.mk #[]).toList) = !okJ m.data.toList n.data.toList := by
 rw [Znu]
 unfold Zsw
 cases okJ m.data.toList n.data.toList with
 | true =>
  have e : (ByteArray.mk #[46]).size = 1 := rfl
  rw [if_pos rfl]
  exact decide_eq_false (by rw [Zrm, Zrm, e]; omega)
 | false => rfl
def spl : List UInt8 → Option (List UInt8 × List UInt8)
 | [] => none
 | b :: l => if b.toNat = 46 then some ([], l) else (spl l).map fun p => (b :: p.1, p.2)
theorem ZBB : ∀ l : List UInt8, Lib.cut l [46] = match spl l with | some p => (p.1, p.2, true) | none => (l, [], false) := by
 have key : ∀ l : List UInt8, match spl l with | some p => 0 ≤ Lib.indexByte l 46 ∧ l.take (Lib.indexByte l 46).toNat = p.1 ∧ l.drop ((Lib.indexByte l 46).toNat + 1) = p.2 | none => Lib.indexByte l 46 = -1 := by
  intro l
  induction l with
  | nil => rfl
  | cons b l ih =>
   unfold spl Lib.indexByte
   by_cases hb : b.toNat = 46
   ·have : b = 46 := UInt8.toNat_inj.1 hb
    subst this
    simp
   ·have h2 : (b == 46) = false := by
     rw [beq_eq_false_iff_ne]; rintro rfl; exact hb rfl
    rw [if_neg hb, h2]
    simp only [Bool.false_eq_true, if_false]
    cases hs : spl l with
    | none => rw [hs] at ih; simp only at ih; simp [ih]
    | some p =>
     rw [hs] at ih
     simp only at ih
     obtain ⟨h3, h4, h5⟩ := ih
     have h6 : (Lib.indexByte l 46 == -1) = false := by rw [beq_eq_false_iff_ne]; omega
     simp only [Option.map_some, h6, Bool.false_eq_true, if_false]
     have h7 : (Lib.indexByte l 46 + 1).toNat = (Lib.indexByte l 46).toNat + 1 := by omega
     rw [h7, List.take_succ_cons, List.drop_succ_cons, h4, h5]
     exact ⟨by omega, rfl, rfl⟩
 intro l
 have h := key l
 unfold Lib.cut
 rw [Lib.index_one]
 cases hs : spl l with
 | none => rw [hs] at h; simp only at h; rw [h]; rfl
 | some p =>
  rw [hs] at h
  simp only at h
  rw [if_pos h.1, h.2.1]
  show (_, l.drop (_ + 1), true) = _
  rw [h.2.2]
def Zim (s : ByteArray) : ByteArray × ByteArray × Bool :=
 match spl s.data.toList with
 | some p => if okJ p.1 p.2 = true then (mkB p.1, mkB p.2, true) else (ByteArray.mk #[], ByteArray.mk #[], false)
 | none => (ByteArray.mk #[], ByteArray.mk #[], false)
theorem ZwE (s : ByteArray) (hs : s.size ≤ 1000000000) : ZeV s = some (Zim s) := by
 unfold ZeV strings_Cut
 rw [Zde _ (by omega), Zn]
 have hc : ZDf s (ByteArray.mk #[46]) = match spl s.data.toList with | some p => (mkB p.1, mkB p.2, true) | none => (mkB s.data.toList, mkB [], false) := by
  unfold ZDf
  have e : (ByteArray.mk #[46]).data.toList = [46] := rfl
  rw [e, ZBB]
  cases spl s.data.toList <;> rfl
 unfold Zim
 rw [hc]
 cases spl s.data.toList with
 | none => rw [Bool.not_false, orT, ifT]
 | some p =>
  simp only [Bool.not_true]
  rw [orF, ZD8, Zn, Zn, ZuB, Zey, Zey]
  cases okJ p.1 p.2 with
  | true => rw [Bool.not_true, ifF, ifT]
  | false => rw [Bool.not_false, ifT, ifF]
theorem Zos (s : ByteArray) (a b : Nat) (h : a ≤ b) (hb : b ≤ s.size) : slS s ((a : Nat) : Int) ((b : Nat) : Int) = some (s.extract a b) := by
 unfold slS
 rw [if_pos (by omega), Int.toNat_natCast, Int.toNat_natCast]
theorem Zfm (s : ByteArray) (a b : Nat) : (s.extract a b).data.toList = (s.data.toList.drop a).take (b - a) := by
 rw [ByteArray.data_extract, Array.toList_extract, List.extract_eq_take_drop]
theorem ZyH {l : List UInt8} {k : Nat} {y : UInt8} (h : l[k]? = some y) : spl (l.drop k) = if y.toNat = 46 then some ([], l.drop (k + 1)) else (spl (l.drop (k + 1))).map fun p => (y :: p.1, p.2) := by
 rw [Zi8 h, spl]
theorem ZxR (s : ByteArray) (hs : s.size ≤ 1000000000) : ∀ (d k : Nat), s.size - k = d → k ≤ s.size → Zbg s k = some (match spl (s.data.toList.drop k) with
  | some p => if okJ (s.data.toList.take k ++ p.1) p.2 = true then (mkB (s.data.toList.take k ++ p.1), mkB p.2, true) else (ByteArray.mk #[], ByteArray.mk #[], false)
  | none => (ByteArray.mk #[], ByteArray.mk #[], false)) := by
 intro d
 induction d with
 | zero =>
  intro k hk hle
  rw [Zbg, if_neg (by rw [decide_eq_true_iff]; omega), List.drop_eq_nil_of_le (by rw [sz]; omega)]; rfl
 | succ d ih =>
  intro k hk hle
  have hlt : k < s.size := by omega
  obtain ⟨y, hy⟩ : ∃ y, s.data.toList[k]? = some y := ⟨_, List.getElem?_eq_getElem (by rw [sz]; exact hlt)⟩
  rw [Zbg, if_pos (by rw [decide_eq_true_iff]; omega), ZeB, hy, Zn, ZyH hy, show (46 : Int) = ((46 : Nat) : Int) from rfl, bne, ZdV]
  by_cases h46 : y.toNat = 46
  ·have h1 : (y.toNat == 46) = true := by rw [beq_iff_eq]; exact h46
   have hz0 : (s.extract 0 k).data.toList = s.data.toList.take k := by rw [Zfm]; rfl
   have hz1 : (s.extract (k + 1) s.size).data.toList = s.data.toList.drop (k + 1) := by rw [Zfm]; exact List.take_of_length_le (by rw [List.length_drop, sz]; omega)
   have e1 : s.extract 0 k = mkB (s.data.toList.take k) := ZfB (by rw [hz0, Zey])
   have e2 : s.extract (k + 1) s.size = mkB (s.data.toList.drop (k + 1)) := ZfB (by rw [hz1, Zey])
   rw [h1, Bool.not_true, ifF, Zos s 0 k (by omega) (by omega), Zn, Zde _ (by omega), Zdu (by omega), Zos s (k + 1) s.size (by omega) (by omega), Zn, ZDF, Zn, ZuB, hz0, hz1, if_pos h46, Zn, Zde _ (by omega), Zn, e1, e2]
   simp only [List.append_nil]
   cases okJ (s.data.toList.take k) (s.data.toList.drop (k + 1)) with
   | true => rw [Bool.not_true, ifF, ifT]
   | false => rw [Bool.not_false, ifT, ifF]
  ·have h1 : (y.toNat == 46) = false := by rw [beq_eq_false_iff_ne]; exact h46
   rw [h1, Bool.not_false, ifT, Zde _ (by omega), ih (k + 1) (by omega) (by omega), if_neg h46]
   have ht : s.data.toList.take (k + 1) = s.data.toList.take k ++ [y] := by rw [List.take_add_one, hy]; rfl
   cases spl (s.data.toList.drop (k + 1)) with
   | none => rfl
   | some p =>
    simp only [Option.map_some]
    rw [ht, List.append_assoc]; rfl
theorem Zxj (s : ByteArray) (hs : s.size ≤ 1000000000) : ZcY s = some (Zim s) := by
 unfold ZcY Zim
 rw [ZxR s hs _ 0 rfl (by omega)]; rfl
def Zl1 (s : ByteArray) : Bool := (Zim s).2.2 || Zia s.data.toList
theorem ZyM (s : ByteArray) (hs : s.size ≤ 1000000000) : ZeU s = some (Zl1 s) := by
 unfold ZeU Zl1
 rw [ZwE s hs, Zn]
 cases (Zim s).2.2 with
 | true => rfl
 | false => rw [orF, ZuJ]; rfl
theorem Zzr (s : ByteArray) (hs : s.size ≤ 1000000000) : ZcV s = some (Zl1 s) := by
 unfold ZcV Zl1
 rw [Zxj s hs, Zn]
 cases (Zim s).2.2 with
 | true => rfl
 | false => rw [orF, ZwP]; rfl

def Zm8 (b : UInt8) : Prop := 48 ≤ b.toNat ∧ b.toNat ≤ 57
theorem Zi9 {k : Nat} (h : k < 10) : (UInt8.ofNat (48 + k)).toNat = 48 + k := by
 rw [UInt8.toNat_ofNat']; omega
theorem Zqq : ∀ (n u : Nat), u ≤ n → ∀ b ∈ Lib.decDigits u, Zm8 b := by
 intro n
 induction n with
 | zero =>
  intro u hu b hb
  rw [Lib.decDigits, dif_pos (by omega)] at hb
  simp only [List.mem_singleton] at hb
  subst hb
  unfold Zm8; rw [Zi9 (by omega)]; omega
 | succ n ih =>
  intro u hu b hb
  rw [Lib.decDigits] at hb
  split at hb
  ·simp only [List.mem_singleton] at hb
   subst hb
   unfold Zm8; rw [Zi9 (by omega)]; omega
  ·rw [List.mem_append] at hb
   rcases hb with hb | hb
   ·exact ih (u / 10) (by omega) b hb
   ·simp only [List.mem_singleton] at hb
    subst hb
    unfold Zm8; rw [Zi9 (by omega)]; omega
theorem Ztc : ∀ (k u : Nat), u < 10 ^ (k + 1) → (Lib.decDigits u).length ≤ k + 1
 | 0, u, h => by rw [Lib.decDigits, dif_pos (by simpa using h)]; simp
 | k + 1, u, h => by
  rw [Lib.decDigits]
  split
  ·simp
  ·rw [List.length_append, List.length_singleton]
   have := Ztc k (u / 10) (by rw [Nat.pow_succ] at h; omega)
   omega
theorem Zrf (u : Nat) : Lib.decDigits u ≠ [] := by
 rw [Lib.decDigits]; split <;> simp
theorem ZxL : ∀ (n u : Nat), u ≤ n → u < 18446744073709551616 → ∀ r : List UInt8, Lib.parseUint10 0 (Lib.decDigits u ++ r) = Lib.parseUint10 u r := by
 intro n
 induction n with
 | zero =>
  intro u hu _ r
  obtain rfl : u = 0 := by omega
  rw [Lib.decDigits, dif_pos (by omega)]
  simp only [List.cons_append, List.nil_append, Lib.parseUint10]
  rfl
 | succ n ih =>
  intro u hu hl r
  rw [Lib.decDigits]
  split
  ·rename_i h
   simp only [List.cons_append, List.nil_append, Lib.parseUint10, Zi9 h]
   rw [if_pos (by omega), if_neg (by omega), if_neg (by omega)]
   congr 1; omega
  ·rename_i h
   rw [List.append_assoc, ih (u / 10) (by omega) (by omega)]
   simp only [List.cons_append, List.nil_append, Lib.parseUint10, Zi9 (show u % 10 < 10 by omega)]
   rw [if_pos (by omega), if_neg (by omega), if_neg (by omega)]
   congr 1; omega
theorem Zxg {u : Nat} (h : u < 18446744073709551616) : Lib.parseMag (Lib.decDigits u) = .ok u := by
 unfold Lib.parseMag
 rw [if_neg (Zrf u)]
 have := ZxL u u (Nat.le_refl _) h []
 rw [List.append_nil] at this
 rw [this]; rfl
def ZlU (n : Int) : Prop := -9223372036854775808 ≤ n ∧ n ≤ 9223372036854775807
theorem itoa_cons (n : Int) : ∃ b r, Lib.itoa n = b :: r ∧ (b.toNat = 45 ∨ Zm8 b) ∧ (∀ x ∈ r, Zm8 x) := by
 unfold Lib.itoa
 split
 ·exact ⟨45, _, rfl, .inl rfl, fun x hx => Zqq _ _ (Nat.le_refl _) x hx⟩
 ·cases h : Lib.decDigits n.toNat with
  | nil => exact absurd h (Zrf _)
  | cons b r =>
   have hd := Zqq _ n.toNat (Nat.le_refl _)
   rw [h] at hd
   exact ⟨b, r, rfl, .inr (hd b (by simp)), fun x hx => hd x (by simp [hx])⟩
theorem ZsQ {n : Int} (h : ZlU n) : Lib.atoiAll (Lib.itoa n) = .ok n := by
 unfold ZlU at h
 unfold Lib.itoa
 by_cases hn : n < 0
 ·rw [if_pos hn]
  simp only [Lib.atoiAll]
  rw [if_pos (by decide), Zxg (by omega)]
  simp only
  rw [if_neg (by simp), if_neg (by simp; omega), if_pos (by decide)]
  congr 1; omega
 ·rw [if_neg hn]
  cases hd : Lib.decDigits n.toNat with
  | nil => exact absurd hd (Zrf _)
  | cons b r =>
   have hb : Zm8 b := Zqq _ n.toNat (Nat.le_refl _) b (by rw [hd]; simp)
   unfold Zm8 at hb
   have hm := Zxg (u := n.toNat) (by omega)
   rw [hd] at hm
   simp only [Lib.atoiAll]
   rw [if_neg (by omega), hm]
   simp only
   rw [if_neg (by omega), if_neg (by omega), if_neg (by omega)]
   congr 1; omega
theorem ZAu {n : Int} (h : ZlU n) : (Lib.itoa n).length ≤ 21 := by
 unfold ZlU at h
 unfold Lib.itoa
 have hp : (9223372036854775808 : Nat) < 10 ^ (19 + 1) := by decide
 split
 ·have := Ztc 19 n.natAbs (by omega); simp; omega
 ·have := Ztc 19 n.toNat (by omega); omega
theorem itoaB_list (n : Int) : (Zpa n).toList = Lib.itoa n := by rw [ZaZ]; rfl
theorem Zoh (n : Int) : (Zpa n).data.toList = Lib.itoa n := rfl
theorem atoiR_itoa {n : Int} (h : ZlU n) : Zss (Zpa n) = (n, false) := by
 unfold Zss; rw [Zoh, ZsQ h]
theorem ZqK {l : List UInt8} {v : Int} (h : Lib.atoiAll l = .ok v) : ZlU v := by
 unfold ZlU
 cases l with
 | nil => cases h
 | cons c r =>
  simp only [Lib.atoiAll] at h
  split at h
  ·cases h
  ·cases h
  ·rename_i u hu
   split at h
   ·cases h
   ·split at h
    ·cases h
    ·injection h with h
     split at h <;> omega
def ZET (n : Nat) (c : UInt8) : Nat := 10 * n + (c.toNat - 48)
def Zh8 (n : Nat) (l : List UInt8) : Nat := l.foldl ZET n
theorem ZyX (a b : List UInt8) (n : Nat) : Zh8 n (a ++ b) = Zh8 (Zh8 n a) b := List.foldl_append
theorem Znd (n : Nat) : Zh8 n [] = n := List.foldl_nil
theorem ZkY (n : Nat) (c : UInt8) (l : List UInt8) : Zh8 n (c :: l) = Zh8 (10 * n + (c.toNat - 48)) l := List.foldl_cons ..
theorem Zu3 (c : UInt8) : Zh8 0 [c] = c.toNat - 48 := by rw [ZkY, Znd]; omega
theorem ZsF (l : List UInt8) (c : UInt8) : Zh8 0 (l ++ [c]) = 10 * Zh8 0 l + (c.toNat - 48) := by rw [ZyX, ZkY, Znd]
theorem ZpB : ∀ (l : List UInt8) (n : Nat), n ≤ Zh8 n l
 | [], n => by rw [Znd]; exact Nat.le_refl _
 | c :: l, n => by rw [ZkY]; exact Nat.le_trans (by omega) (ZpB l _)
def Zi3 (l : List UInt8) : Bool := match l with
 | [] => false
 | c :: r => (r.isEmpty || !(c.toNat == 48)) && (c :: r).all ZgO && decide (Zh8 0 (c :: r) ≤ 9223372036854775807)
theorem Znh (c : UInt8) : ZgO c = true ↔ 48 ≤ c.toNat ∧ c.toNat ≤ 57 := by
 unfold ZgO; rw [Bool.and_eq_true, decide_eq_true_iff, decide_eq_true_iff]
theorem ZBy : ∀ (n u : Nat), u ≤ n → Zh8 0 (Lib.decDigits u) = u := by
 intro n
 induction n with
 | zero =>
  intro u hu
  rw [Lib.decDigits, dif_pos (by omega), Zu3, Zi9 (by omega)]; omega
 | succ n ih =>
  intro u hu
  rw [Lib.decDigits]
  split
  ·rw [Zu3, Zi9 (by omega)]; omega
  ·rw [ZsF, ih (u / 10) (by omega), Zi9 (by omega)]; omega
theorem ZzA : ∀ (n u : Nat), u ≤ n → 0 < u → ∀ c r, Lib.decDigits u = c :: r → c.toNat ≠ 48 := by
 intro n
 induction n with
 | zero => intro u hu h0; omega
 | succ n ih =>
  intro u hu h0 c r h
  rw [Lib.decDigits] at h
  split at h
  ·injection h with h; rw [← h, Zi9 (by omega)]; omega
  ·cases hd : Lib.decDigits (u / 10) with
   | nil => exact absurd hd (Zrf _)
   | cons b r' =>
    rw [hd] at h
    injection h with h
    rw [← h]
    exact ih (u / 10) (by omega) (by omega) b r' hd
theorem ZxS {u : Nat} (h : u ≤ 9223372036854775807) : Zi3 (Lib.decDigits u) = true := by
 cases hd : Lib.decDigits u with
 | nil => exact absurd hd (Zrf _)
 | cons c r =>
  unfold Zi3
  have hv := ZBy u u (Nat.le_refl _)
  have hall := Zqq u u (Nat.le_refl _)
  rw [hd] at hv hall
  have h1 : (c :: r).all ZgO = true := List.all_eq_true.2 fun x hx => (Znh x).2 (hall x hx)
  have h2 : (r.isEmpty || !(c.toNat == 48)) = true := by
   rcases Nat.eq_zero_or_pos u with h0 | h0
   ·subst h0
    rw [Lib.decDigits, dif_pos (by omega)] at hd
    injection hd with _ hd
    rw [← hd]; rfl
   ·have := ZzA u u (Nat.le_refl _) h0 c r hd
    rw [show (c.toNat == 48) = false from by rw [beq_eq_false_iff_ne]; exact this]; simp
  simp only [h1, h2, hv, Bool.true_and]
  exact decide_eq_true h
theorem ZsM {c : UInt8} {k : Nat} (h : 48 ≤ c.toNat) (hk : k = c.toNat - 48) : UInt8.ofNat (48 + k) = c := by
 apply UInt8.toNat_inj.1
 have := c.toNat_lt
 rw [UInt8.toNat_ofNat', hk]; omega
theorem Zsc : ∀ (n : Nat) (l : List UInt8), l.length = n → l ≠ [] → (∀ x ∈ l, ZgO x = true) → (∀ c r, l = c :: r → r = [] ∨ c.toNat ≠ 48) → Lib.decDigits (Zh8 0 l) = l := by
 intro n
 induction n with
 | zero => intro l hl hne; exact absurd (List.eq_nil_of_length_eq_zero hl) hne
 | succ n ih =>
  intro l hl hne hall hh
  rcases List.eq_nil_or_concat l with h0 | ⟨b, c, hc⟩
  ·exact absurd h0 hne
  ·rw [List.concat_eq_append] at hc
   subst hc
   have hcd := (Znh c).1 (hall c (by simp))
   rw [ZsF]
   cases b with
   | nil =>
    rw [Znd, Lib.decDigits, dif_pos (by omega), ZsM hcd.1 (by omega)]; rfl
   | cons d b =>
    have hlen : (d :: b).length = n := by simp at hl ⊢; omega
    have ZGN : d.toNat ≠ 48 := by
     rcases hh d (b ++ [c]) rfl with h | h
     ·simp at h
     ·exact h
    have hih := ih (d :: b) hlen (by simp) (fun x hx => hall x (by simp at hx ⊢; rcases hx with h | h; exact .inl h; exact .inr (.inl h))) (fun e r he => by injection he with h1 h2; subst h1; exact .inr ZGN)
    have hpos : 0 < Zh8 0 (d :: b) := by
     have hdd := (Znh d).1 (hall d (by simp))
     have := ZpB b (10 * 0 + (d.toNat - 48))
     rw [ZkY]; omega
    rw [Lib.decDigits, dif_neg (by omega)]
    have e1 : (10 * Zh8 0 (d :: b) + (c.toNat - 48)) / 10 = Zh8 0 (d :: b) := by omega
    have e2 : (10 * Zh8 0 (d :: b) + (c.toNat - 48)) % 10 = c.toNat - 48 := by omega
    rw [e1, e2, hih, ZsM hcd.1 rfl]
theorem ZsN {l : List UInt8} (h : Zi3 l = true) : Lib.decDigits (Zh8 0 l) = l ∧ Zh8 0 l ≤ 9223372036854775807 := by
 cases l with
 | nil => cases h
 | cons c r =>
  unfold Zi3 at h
  rw [Bool.and_eq_true, Bool.and_eq_true, decide_eq_true_iff, List.all_eq_true] at h
  refine ⟨Zsc _ (c :: r) rfl (by simp) h.1.2 fun d r' he => ?_, h.2⟩
  injection he with h1 h2
  subst h1 h2
  have := h.1.1
  rw [Bool.or_eq_true] at this
  rcases this with h3 | h3
  ·exact .inl (by simpa using h3)
  ·exact .inr (by simpa using h3)

theorem w64 {x : Int} (h : -9223372036854775808 ≤ x) (h' : x ≤ 9223372036854775807) : IntKind.i64.wrap x = x := IntWalk.i64_in x ⟨h, by omega⟩
theorem w8 {x : Int} (h : 0 ≤ x) (h' : x ≤ 255) : IntKind.u8.wrap x = x := by
 unfold IntKind.wrap
 simp [IntKind.bits, IntKind.signed]
 omega
theorem ZA9 (s : ByteArray) (hs : s.size ≤ 1000000000) : ∀ (d k m : Nat), s.size - k = d → k ≤ s.size → m ≤ 9223372036854775807 → ZaX s ((m : Nat) : Int) k =
  some (if ((s.data.toList.drop k).all ZgO && decide (Zh8 m (s.data.toList.drop k) ≤ 9223372036854775807)) = true then (((Zh8 m (s.data.toList.drop k) : Nat) : Int), true) else (0, false)) := by
 intro d
 induction d with
 | zero =>
  intro k m hk hle hm
  rw [ZaX, if_neg (by rw [decide_eq_true_iff]; omega), List.drop_eq_nil_of_le (by rw [sz]; omega), Znd, List.all_nil, Bool.true_and, if_pos (decide_eq_true hm)]
 | succ d ih =>
  intro k m hk hle hm
  have hlt : k < s.size := by omega
  obtain ⟨y, hy⟩ : ∃ y, s.data.toList[k]? = some y := ⟨_, List.getElem?_eq_getElem (by rw [sz]; exact hlt)⟩
  rw [ZaX, if_pos (by rw [decide_eq_true_iff]; omega), ZeB, hy, Zn, ZBT, Zn, Zi8 hy, List.all_cons, ZkY]
  cases hd : ZgO y with
  | false => rw [Bool.not_false, ifT, Bool.false_and, Bool.false_and, ifF]
  | true =>
   have hdd := (Znh y).1 hd
   have e8 : IntKind.u8.wrap (((y.toNat : Nat) : Int) - 48) = ((y.toNat - 48 : Nat) : Int) := by rw [w8 (by omega) (by omega)]; omega
   rw [Bool.not_true, ifF, Zn, e8, w64 (x := ((y.toNat - 48 : Nat) : Int)) (by omega) (by omega), w64 (x := 9223372036854775807 - ((y.toNat - 48 : Nat) : Int)) (by omega) (by omega)]
   have et : Int.tdiv (9223372036854775807 - ((y.toNat - 48 : Nat) : Int)) 10 = (9223372036854775807 - ((y.toNat - 48 : Nat) : Int)) / 10 := Int.tdiv_eq_ediv_of_nonneg (by omega)
   rw [et, w64 (x := (9223372036854775807 - ((y.toNat - 48 : Nat) : Int)) / 10) (by omega) (by omega), Bool.true_and]
   by_cases hg : 10 * m + (y.toNat - 48) ≤ 9223372036854775807
   ·rw [if_neg (by rw [decide_eq_true_iff]; omega), Zde _ (by omega), w64 (x := 10 * ((m : Nat) : Int)) (by omega) (by omega), w64 (x := 10 * ((m : Nat) : Int) + ((y.toNat - 48 : Nat) : Int)) (by omega) (by omega)]
    have e : 10 * ((m : Nat) : Int) + ((y.toNat - 48 : Nat) : Int) = ((10 * m + (y.toNat - 48) : Nat) : Int) := by omega
    rw [e, ih (k + 1) (10 * m + (y.toNat - 48)) (by omega) (by omega) hg]
   ·rw [if_pos (by rw [decide_eq_true_iff]; omega)]
    have h1 := ZpB (s.data.toList.drop (k + 1)) (10 * m + (y.toNat - 48))
    rw [show decide (Zh8 (10 * m + (y.toNat - 48)) (s.data.toList.drop (k + 1)) ≤ 9223372036854775807) = false from decide_eq_false (by omega), Bool.and_false, ifF]
theorem ZAB (s : ByteArray) (hs : s.size ≤ 1000000000) : ZcH s = some (if Zi3 s.data.toList = true then (((Zh8 0 s.data.toList : Nat) : Int), true) else (0, false)) := by
 unfold ZcH
 rw [Znu]
 cases hl : s.data.toList with
 | nil =>
  have h0 : s.size = 0 := by rw [← sz, hl]; rfl
  rw [decide_eq_true h0, orT, ifT]; rfl
 | cons c r =>
  have h0 : s.size = r.length + 1 := by rw [← sz, hl]; rfl
  have hb : btI s 0 = some c := by have := ZeB s 0; rw [hl] at this; exact this
  rw [decide_eq_false (by omega), orF, hb, Zn, Zn, show (48 : Int) = ((48 : Nat) : Int) from rfl, ZdV]
  have e1 : decide (((s.size : Nat) : Int) > 1) = !r.isEmpty := by
   cases r with
   | nil => exact decide_eq_false (by simp at h0; omega)
   | cons a b => exact decide_eq_true (by simp at h0; omega)
  rw [e1]
  have e2 : Zi3 (c :: r) = ((r.isEmpty || !(c.toNat == 48)) && (c :: r).all ZgO && decide (Zh8 0 (c :: r) ≤ 9223372036854775807)) := rfl
  rw [e2]
  cases hz : ((c.toNat == 48) && !r.isEmpty) with
  | true =>
   have : (r.isEmpty || !(c.toNat == 48)) = false := by revert hz; cases (c.toNat == 48) <;> cases r.isEmpty <;> simp
   rw [ifT, this, Bool.false_and, Bool.false_and, ifF]
  | false =>
   have : (r.isEmpty || !(c.toNat == 48)) = true := by revert hz; cases (c.toNat == 48) <;> cases r.isEmpty <;> simp
   have hh := ZA9 s hs _ 0 0 rfl (by omega) (by omega)
   rw [ifF, this, Bool.true_and]
   rw [List.drop_zero, hl] at hh
   exact hh

def spd : List UInt8 → Option (List UInt8 × List UInt8)
 | [] => none
 | b :: l => match spd l with
  | some p => some (b :: p.1, p.2)
  | none => if b.toNat = 36 then some ([], l) else none
theorem ZtT : ∀ {l : List UInt8} {p : List UInt8 × List UInt8}, spd l = some p → ∃ b : UInt8, b.toNat = 36 ∧ l = p.1 ++ b :: p.2
 | [], p, h => by cases h
 | c :: l, p, h => by
  unfold spd at h
  cases hs : spd l with
  | some q =>
   rw [hs] at h
   injection h with h
   obtain ⟨b, hb, hl⟩ := ZtT hs
   subst h
   exact ⟨b, hb, by rw [hl]; rfl⟩
  | none =>
   rw [hs] at h
   simp only at h
   split at h
   ·injection h with h; subst h; exact ⟨c, by assumption, rfl⟩
   ·cases h
theorem Zut (y : UInt8) : ∀ l : List UInt8, spd (l ++ [y]) = if y.toNat = 36 then some (l, []) else (spd l).map fun p => (p.1, p.2 ++ [y])
 | [] => rfl
 | b :: l => by
  rw [List.cons_append]
  unfold spd
  rw [Zut y l]
  by_cases h : y.toNat = 36
  ·rw [if_pos h, if_pos h]
  ·rw [if_neg h, if_neg h]
   cases spd l with
   | some p => rfl
   | none =>
    simp only [Option.map_none]
    split <;> rfl
def Zvp (l : List UInt8) : Int := match spd l with
 | some p => ((p.1.length : Nat) : Int)
 | none => -1
theorem ZzG (s : ByteArray) (hs : s.size ≤ 1000000000) : ∀ k, k ≤ s.size → ZR s 36 (((k : Nat) : Int) - 1) = some (Zvp (s.data.toList.take k)) := by
 intro k
 induction k with
 | zero => intro _; rw [ZR, if_neg (by rw [decide_eq_true_iff]; omega)]; rfl
 | succ k ih =>
  intro hk
  obtain ⟨y, hy⟩ : ∃ y, s.data.toList[k]? = some y := ⟨_, List.getElem?_eq_getElem (by rw [sz]; exact hk)⟩
  have e : ((k + 1 : Nat) : Int) - 1 = ((k : Nat) : Int) := by omega
  rw [e, ZR, if_pos (by rw [decide_eq_true_iff]; omega), ZeB, hy, Zn, show (36 : Int) = ((36 : Nat) : Int) from rfl, ZdV]
  have ht : s.data.toList.take (k + 1) = s.data.toList.take k ++ [y] := by rw [List.take_add_one, hy]; rfl
  have hl : (s.data.toList.take k).length = k := by rw [List.length_take, sz]; omega
  unfold Zvp
  rw [ht, Zut]
  by_cases h : y.toNat = 36
  ·rw [if_pos (by rw [beq_iff_eq]; exact h), if_pos h]; simp only [hl]
  ·rw [if_neg (by rw [beq_iff_eq]; exact h), if_neg h, w64 (by omega) (by omega)]
   have := ih (by omega)
   rw [show ((36 : Nat) : Int) = 36 from rfl, this]
   unfold Zvp
   cases spd (s.data.toList.take k) <;> rfl
theorem ZDr (s : ByteArray) (hs : s.size ≤ 1000000000) : Zb0 s 36 = some (Zvp s.data.toList) := by
 unfold Zb0 Za0
 rw [w64 (by omega) (by omega), ZzG s hs s.size (Nat.le_refl _), Zn, List.take_of_length_le (by rw [sz]; omega)]
def ZiH (s : ByteArray) : ByteArray × Int × Bool :=
 match spd s.data.toList with
 | some p => if (Zl1 (mkB p.1) && Zi3 p.2) = true then (mkB p.1, ((Zh8 0 p.2 : Nat) : Int), true) else (ByteArray.mk #[], 0, false)
 | none => (ByteArray.mk #[], 0, false)
theorem ZxQ {n : Int} (h : ZlU n) : strconv_Itoa n = some (Zpa n) := by
 unfold strconv_Itoa
 have h' : -9223372036854775808 ≤ n ∧ n ≤ 9223372036854775807 := h
 rw [Zde _ h']
def ZsR (b : ByteArray) (n : Int) : ByteArray := if (decide (n < 0) || !Zl1 b) = true then ByteArray.mk #[] else (b ++ ByteArray.mk #[36]) ++ Zpa n
theorem ZzQ {b : ByteArray} {n : Int} (hb : b.size ≤ 1000000000) (hn : ZlU n) : (Z5 (((b.size + (ByteArray.mk #[36]).size : Nat) : Int) ≤ IntKind.i64.max) >>= fun _ => strconv_Itoa n >>= fun r9 =>
  Z5 ((((b ++ (ByteArray.mk #[36])).size + r9.size : Nat) : Int) ≤ IntKind.i64.max) >>= fun _ => some ((b ++ (ByteArray.mk #[36])) ++ r9)) = some ((b ++ (ByteArray.mk #[36])) ++ Zpa n) := by
 have e : (ByteArray.mk #[36]).size = 1 := rfl
 have hl : (Zpa n).size ≤ 21 := by rw [← sz, Zoh]; exact ZAu hn
 have h1 : ((b.size + (ByteArray.mk #[36]).size : Nat) : Int) ≤ IntKind.i64.max := by rw [Zpi, e]; omega
 have h2 : (((b ++ (ByteArray.mk #[36])).size + (Zpa n).size : Nat) : Int) ≤ IntKind.i64.max := by rw [Zpi, Zrm, e]; omega
 rw [Zde _ h1, ZxQ hn, Zn, Zde _ h2]
theorem ZCd (b : ByteArray) (n : Int) (hb : b.size ≤ 1000000000) (hn : ZlU n) : Zf4 b n = some (ZsR b n) := by
 unfold Zf4 ZsR
 cases decide (n < 0) with
 | true => rw [orT, Bool.true_or, ifT, ifT]
 | false =>
  rw [orF, ZyM b hb, Zn, Zn, Bool.false_or]
  cases Zl1 b with
  | true => rw [Bool.not_true, ifF, ifF]; exact ZzQ hb hn
  | false => rw [Bool.not_false, ifT, ifT]
theorem r_made (b : ByteArray) (n : Int) (hb : b.size ≤ 1000000000) (hn : ZlU n) : Zds b n = some (ZsR b n) := by
 unfold Zds ZsR
 rw [Zzr b hb, Zn, Bool.or_comm]
 cases (decide (n < 0) || !Zl1 b) with
 | true => rw [ifT, ifT]
 | false => rw [ifF, ifF]; exact ZzQ hb hn
theorem ZuU (a : List UInt8) (b : UInt8) (r : List UInt8) : (a ++ b :: r).take a.length = a ∧ (a ++ b :: r).drop (a.length + 1) = r := by
 constructor
 ·rw [List.take_left']; rfl
 ·rw [← List.drop_drop, List.drop_left']
  ·rfl
  ·rfl
theorem Zom {a : List UInt8} (h : Zi3 a = true) : Lib.atoiAll a = .ok ((Zh8 0 a : Nat) : Int) := by
 obtain ⟨h1, h2⟩ := ZsN h
 have := ZsQ (n := ((Zh8 0 a : Nat) : Int)) ⟨by omega, by omega⟩
 unfold Lib.itoa at this
 rw [if_neg (by omega), Int.toNat_natCast, h1] at this
 exact this
theorem Zx7 {a : List UInt8} {v : Int} (h : Lib.atoiAll a = .ok v) : (¬ v < 0 ∧ Lib.itoa v = a) ↔ Zi3 a = true := by
 constructor
 ·rintro ⟨h0, h1⟩
  have hr := ZqK h
  unfold Lib.itoa at h1
  rw [if_neg h0] at h1
  rw [← h1]
  exact ZxS (by unfold ZlU at hr; omega)
 ·intro hc
  rw [Zom hc] at h
  injection h with h
  subst h
  refine ⟨by omega, ?_⟩
  unfold Lib.itoa
  rw [if_neg (by omega), Int.toNat_natCast, (ZsN hc).1]
theorem Zv3 (s : ByteArray) (hs : s.size ≤ 1000000000) : Ze1 s = some (ZiH s) := by
 unfold Ze1 ZiH
 rw [ZDr s hs, Zn]
 unfold Zvp
 cases hd : spd s.data.toList with
 | none => rfl
 | some p =>
  obtain ⟨b, hb, hl⟩ := ZtT hd
  have hlen : s.size = p.1.length + 1 + p.2.length := by rw [← sz, hl]; simp; omega
  obtain ⟨t1, t2⟩ := ZuU p.1 b p.2
  simp only
  have ha : slS s (((p.1.length + 1 : Nat) : Int)) ((s.size : Nat) : Int) = some (mkB p.2) := by
   rw [Zos s _ _ (by omega) (by omega)]
   congr 1
   refine ZfB ?_
   rw [Zfm, Zey, hl, t2]
   exact List.take_of_length_le (by omega)
  have hz : slS s ((0 : Nat) : Int) ((p.1.length : Nat) : Int) = some (mkB p.1) := by
   rw [Zos s _ _ (by omega) (by omega)]
   congr 1
   refine ZfB ?_
   rw [Zfm, Zey, hl]
   exact t1
  rw [if_neg (by rw [decide_eq_true_iff]; omega), Zdu (by omega), ha, Zn]
  have hat : Zft (mkB p.2) = some (Zss (mkB p.2)) := by unfold Zft; rw [Zde _ (by rw [ZkW]; omega)]
  rw [hat, Zn, hz]
  unfold Zss
  rw [Zey]
  have hno : ∀ e, Lib.atoiAll p.2 = e → (∀ v, e ≠ .ok v) → Zi3 p.2 = false := fun e he hv => by
   cases hc : Zi3 p.2 with
   | false => rfl
   | true => exact absurd (he.symm.trans (Zom hc)) (hv _)
  cases hat2 : Lib.atoiAll p.2
  rotate_left
  ·rw [hno _ hat2 (by simp), Bool.and_false, ifF]; rfl
  ·rw [hno _ hat2 (by simp), Bool.and_false, ifF]; rfl
  ·rename_i v
   have hr := ZqK hat2
   have hbk := Zx7 hat2
   simp only
   rw [if_neg (by simp), Zn, ZCd _ _ (by rw [ZkW]; omega) hr, Zn]
   have ZIM : b = 36 := UInt8.toNat_inj.1 hb
   have hkey : ((ZsR (mkB p.1) v).toList == s.toList) = (Zl1 (mkB p.1) && Zi3 p.2) := by
    rw [ZaZ, ZaZ, hl]
    unfold ZsR
    cases hst : Zl1 (mkB p.1) with
    | false =>
     rw [Bool.not_false, Bool.or_true, ifT, Bool.false_and, beq_eq_false_iff_ne]
     intro h
     have := congrArg List.length h
     simp at this
    | true =>
     rw [Bool.not_true, Bool.or_false, Bool.true_and]
     by_cases hv : v < 0
     ·have hc : Zi3 p.2 = false := by
       cases hc : Zi3 p.2 with
       | false => rfl
       | true => exact absurd hv (hbk.2 hc).1
      rw [decide_eq_true hv, ifT, hc, beq_eq_false_iff_ne]
      intro h
      have := congrArg List.length h
      simp at this
     ·rw [decide_eq_false hv, ifF, ZmE, ZmE, Zey, Zoh]
      have e36 : (ByteArray.mk #[36]).data.toList = [36] := rfl
      rw [e36, ZIM, Bool.eq_iff_iff, beq_iff_eq, ← hbk, List.append_assoc]
      constructor
      ·intro h
       have h2 := List.append_cancel_left h
       injection h2 with _ h3
       exact ⟨hv, h3⟩
      ·rintro ⟨_, h⟩
       rw [h]; rfl
   rw [hkey]
   cases hc : (Zl1 (mkB p.1) && Zi3 p.2) with
   | false => rw [Bool.not_false, ifF]; rfl
   | true =>
    rw [Bool.not_true, ifT]
    rw [Bool.and_eq_true] at hc
    have hv := hat2.symm.trans (Zom hc.2)
    injection hv with hv
    rw [hv]; rfl

def ZFk (s : ByteArray) (ZhV : Int) : Option (ByteArray × Int × Bool) :=
 (if (decide (ZhV < 0)) = true then some true else (slS s ((0 : Nat) : Int) ZhV) >>= fun z37 =>
 ZcV z37 >>= fun r38 =>
 some (!r38)) >>= fun c39 =>
 if c39 = true then
 some ((ByteArray.mk #[]), 0, false)
 else
 (slS s (IntKind.i64.wrap (ZhV + 1)) ((s.size : Nat) : Int)) >>= fun z42 =>
 ZcH z42 >>= fun r43 =>
 if (!r43.2) = true then
 some ((ByteArray.mk #[]), 0, false)
 else
 (slS s ((0 : Nat) : Int) ZhV) >>= fun z46 =>
 some (z46, r43.1, true)
theorem Zzm (s : ByteArray) (hs : s.size ≤ 1000000000) : ∀ (d k : Nat) (ZhV : Int), s.size - k = d → k ≤ s.size → Za5 s ZhV k = ZFk s (match spd (s.data.toList.drop k) with | some p => (((k + p.1.length : Nat)) : Int) | none => ZhV) := by
 intro d
 induction d with
 | zero =>
  intro k ZhV hk hle
  rw [Za5, if_neg (by rw [decide_eq_true_iff]; omega), List.drop_eq_nil_of_le (by rw [sz]; omega)]; rfl
 | succ d ih =>
  intro k ZhV hk hle
  have hlt : k < s.size := by omega
  obtain ⟨y, hy⟩ : ∃ y, s.data.toList[k]? = some y := ⟨_, List.getElem?_eq_getElem (by rw [sz]; exact hlt)⟩
  rw [Za5, if_pos (by rw [decide_eq_true_iff]; omega), ZeB, hy, Zn, show (36 : Int) = ((36 : Nat) : Int) from rfl, ZdV, Zi8 hy]
  have e : spd (y :: s.data.toList.drop (k + 1)) = match spd (s.data.toList.drop (k + 1)) with | some p => some (y :: p.1, p.2) | none => if y.toNat = 36 then some ([], s.data.toList.drop (k + 1)) else none := by rw [spd]; (try (cases spd (s.data.toList.drop (k + 1)) <;> rfl))
  rw [e]
  by_cases h : y.toNat = 36
  ·rw [if_pos (by rw [beq_iff_eq]; exact h), Zde _ (by omega), ih (k + 1) _ (by omega) (by omega), if_pos h]
   cases spd (s.data.toList.drop (k + 1)) with
   | none => rfl
   | some p => simp only [List.length_cons]; congr 1; omega
  ·rw [if_neg (by rw [beq_iff_eq]; exact h), Zde _ (by omega), ih (k + 1) _ (by omega) (by omega), if_neg h]
   cases spd (s.data.toList.drop (k + 1)) with
   | none => rfl
   | some p => simp only [List.length_cons]; congr 1; omega
theorem ZzW (s : ByteArray) (hs : s.size ≤ 1000000000) : ZcW s = some (ZiH s) := by
 unfold ZcW ZiH
 rw [Zzm s hs _ 0 (-1) rfl (by omega), List.drop_zero]
 cases hd : spd s.data.toList with
 | none => rfl
 | some p =>
  obtain ⟨b, hb, hl⟩ := ZtT hd
  have hlen : s.size = p.1.length + 1 + p.2.length := by rw [← sz, hl]; simp; omega
  obtain ⟨t1, t2⟩ := ZuU p.1 b p.2
  have ha : slS s (((p.1.length + 1 : Nat) : Int)) ((s.size : Nat) : Int) = some (mkB p.2) := by
   rw [Zos s _ _ (by omega) (by omega)]
   congr 1
   refine ZfB ?_
   rw [Zfm, Zey, hl, t2]
   exact List.take_of_length_le (by omega)
  have hz : slS s ((0 : Nat) : Int) ((p.1.length : Nat) : Int) = some (mkB p.1) := by
   rw [Zos s _ _ (by omega) (by omega)]
   congr 1
   refine ZfB ?_
   rw [Zfm, Zey, hl]
   exact t1
  simp only [Nat.zero_add]
  unfold ZFk
  rw [decide_eq_false (by omega), orF, hz, Zn, Zzr _ (by rw [ZkW]; omega), Zn, Zn, Zdu (by omega), ha]
  cases Zl1 (mkB p.1) with
  | false => rw [Bool.not_false, ifT, Bool.false_and, ifF]
  | true =>
   rw [Bool.not_true, ifF, Zn, ZAB _ (by rw [ZkW]; omega), Zn, Zey, Bool.true_and]
   cases Zi3 p.2 with
   | false => rfl
   | true => rfl
def Zmm (s : ByteArray) : Bool := if (ZiH s).2.2 = true then ZdM (ZiH s).1.data.toList == 1 else (ZdM s.data.toList == 1 && !(s.toList == [102, 111, 114, 97, 108, 108]))
theorem Zti (s : ByteArray) (hs : s.size ≤ 1000000000) : Zdn s = some (if ZdM s.data.toList = 0 then (if (ZiH s).2.2 = true then 7 else 0) else ZdM s.data.toList) := by
 unfold Zdn ZdM
 rw [ZBY, Zn, ZAe, Zwd, Zrx]
 cases hw : ZhX s.data.toList with
 | true =>
  obtain ⟨c, r, hl, hb⟩ := ZoA (Zg5 hw).1
  have hns : Zfp.contains s.data.toList = false := by
   cases h : Zfp.contains s.data.toList with
   | false => rfl
   | true => have := ZpU h; rw [ZiQ hw] at this; cases this
  cases ZdE.contains s.data.toList with
  | true => rfl
  | false =>
   rw [ifF, Zn, hns, ifF, Zn, hb, Zz3, Zn, ZDn, Zn, Zn, Zn, ifT, ifT, ifF]
   have hu : ZiJ s.data.toList = Zie c := by rw [hl]; rfl
   rw [hu]
   cases Zie c <;> rfl
 | false =>
  have hnr : ZdE.contains s.data.toList = false := by
   cases h : ZdE.contains s.data.toList with
   | false => rfl
   | true => have := Zyx h; rw [hw] at this; cases this
  rw [hnr, ifF, Zn, ifF]
  cases hsy : ZeR s.data.toList with
  | true =>
   obtain ⟨c, r, hl, hb⟩ := ZoA (Zm9 hsy).1
   have hu : Zqp s.data.toList = (c.toNat == 58) := by rw [hl]; rfl
   rw [hu]
   cases Zfp.contains s.data.toList with
   | true => rfl
   | false =>
    rw [ifF, Zn, ZDP, ifF, Zn, ifF, Zn, hb, Zz3, Zn, show (58 : Int) = ((58 : Nat) : Int) from rfl, ZdV, Zn, Zn, ifT, ifT, ifF]
    cases (c.toNat == 58) <;> rfl
  | false =>
   have hnr2 : Zfp.contains s.data.toList = false := by
    cases h : Zfp.contains s.data.toList with
    | false => rfl
    | true => have := ZpU h; rw [hsy] at this; cases this
   rw [hnr2, ifF, Zn, ZDP, ifF, Zn, ifF, Zn, ZDP, ifF, Zn, ifF, Zv3 s hs, Zn]
   cases (ZiH s).2.2 <;> rfl

theorem ZpO (s : ByteArray) : (ZiH s).1.size ≤ s.size := by
 unfold ZiH
 cases hd : spd s.data.toList with
 | none => exact Nat.zero_le _
 | some p =>
  obtain ⟨b, hb, hl⟩ := ZtT hd
  have hlen : s.size = p.1.length + 1 + p.2.length := by rw [← sz, hl]; simp; omega
  simp only
  split
  ·show (mkB p.1).size ≤ _; rw [ZkW]; omega
  ·exact Nat.zero_le _
theorem Zw9 : ∀ {l : List UInt8} {p : List UInt8 × List UInt8}, spl l = some p → p.1.length + p.2.length < l.length
 | [], p, h => by cases h
 | b :: l, p, h => by
  unfold spl at h
  split at h
  ·injection h with h; subst h; simp
  ·obtain ⟨q, hq, rfl⟩ := Option.map_eq_some_iff.1 h
   have := Zw9 hq
   simp only [List.length_cons]; omega
theorem ZvA (s : ByteArray) : (Zim s).2.1.size ≤ s.size := by
 unfold Zim
 cases hd : spl s.data.toList with
 | none => exact Nat.zero_le _
 | some p =>
  have := Zw9 hd
  rw [sz] at this
  simp only
  split
  ·show (mkB p.2).size ≤ _; rw [ZkW]; omega
  ·exact Nat.zero_le _
theorem Ztr (s : ByteArray) (k : Int) (h0 : k ≠ 0) (h7 : k ≠ 7) : ((if ZdM s.data.toList = 0 then (if (ZiH s).2.2 = true then (7 : Int) else 0) else ZdM s.data.toList) == k) = (ZdM s.data.toList == k) := by
 by_cases h : ZdM s.data.toList = 0
 ·rw [if_pos h, h]
  have e0 : ((0 : Int) == k) = false := by rw [beq_eq_false_iff_ne]; exact fun e => h0 e.symm
  have e7 : ((7 : Int) == k) = false := by rw [beq_eq_false_iff_ne]; exact fun e => h7 e.symm
  split
  ·rw [e7, e0]
  ·rfl
 ·rw [if_neg h]
theorem Zzd (s : ByteArray) (hs : s.size ≤ 1000000000) : Za9 s = some (Zmm s) := by
 unfold Za9 Zmm
 rw [Zv3 s hs, Zn]
 cases (ZiH s).2.2 with
 | true =>
  have := ZpO s
  rw [ifT, ifT, Zti _ (by omega), Zn, Ztr _ 1 (by decide) (by decide)]
 | false =>
  rw [ifF, ifF, Zti _ hs, Zn, Ztr _ 1 (by decide) (by decide), ZaZ (ByteArray.mk #[102, 111, 114, 97, 108, 108])]
theorem ZBR (s : ByteArray) (hs : s.size ≤ 1000000000) : ZbB s = some (Zmm s) := by
 unfold ZbB Zmm
 rw [ZzW s hs, Zn]
 cases (ZiH s).2.2 with
 | true => rw [ifT, ifT, ZmU, Zn]
 | false => rw [ifF, ifF, ZmU, Zn, ZaZ (ByteArray.mk #[102, 111, 114, 97, 108, 108])]
def unS (b : ByteArray) : ByteArray := if (Zim b).2.2 = true then (Zim b).2.1 else b
def ZvD (s : ByteArray) : Bool :=
 let b := unS (if (ZiH s).2.2 = true then (ZiH s).1 else s)
 (ZdM b.data.toList == 2) || (ZdM b.data.toList == 4)
theorem ZyJ (b : ByteArray) (hs : b.size ≤ 1000000000) : Zc3 b = some ((ZdM b.data.toList == 2) || (ZdM b.data.toList == 4)) := by
 unfold Zc3
 rw [Zti b hs, Zn, Ztr _ 2 (by decide) (by decide), Ztr _ 4 (by decide) (by decide)]
theorem ZzB (b : ByteArray) (hs : b.size ≤ 1000000000) : ZcX b = some ((ZdM (unS b).data.toList == 2) || (ZdM (unS b).data.toList == 4)) := by
 unfold ZcX unS
 rw [ZwE b hs, Zn]
 cases (Zim b).2.2 with
 | true => have := ZvA b; rw [ifT, ifT, ZyJ _ (by omega)]
 | false => rw [ifF, ifF, ZyJ _ hs]
theorem ZFw (s : ByteArray) (hs : s.size ≤ 1000000000) : Zeo s = some (ZvD s) := by
 unfold Zeo ZvD
 rw [Zv3 s hs, Zn]
 cases (ZiH s).2.2 with
 | true => have := ZpO s; rw [ifT, ZzB _ (by omega)]; rfl
 | false => rw [ifF, ZzB _ hs]; rfl
theorem ZzK (b : ByteArray) : Zbk b = some ((ZdM b.data.toList == 2) || (ZdM b.data.toList == 4)) := by
 unfold Zbk
 rw [ZmU, Zn]
theorem ZAO (b : ByteArray) (hs : b.size ≤ 1000000000) : Zbj b = some ((ZdM (unS b).data.toList == 2) || (ZdM (unS b).data.toList == 4)) := by
 unfold Zbj unS
 rw [Zxj b hs, Zn]
 cases (Zim b).2.2 with
 | true => rw [ifT, ifT, ZzK]
 | false => rw [ifF, ifF, ZzK]
theorem ZGA (s : ByteArray) (hs : s.size ≤ 1000000000) : ZcD s = some (ZvD s) := by
 unfold ZcD ZvD
 rw [ZzW s hs, Zn]
 cases (ZiH s).2.2 with
 | true => have := ZpO s; rw [Bool.not_true, ifF, ZAO _ (by omega)]; rfl
 | false => rw [Bool.not_false, ifT, ZAO _ hs]; rfl

theorem ZD4 {s : ByteArray} {k : Nat} {y : UInt8} (h : s.data.toList[k]? = some y) : s.get! k = y := by
 obtain ⟨h1, h2⟩ := List.getElem?_eq_some_iff.1 h
 have hk : k < s.data.size := by simpa using h1
 show s.data[k]! = y
 rw [getElem!_pos s.data k hk]
 simpa using h2
theorem Zx5 (s : ByteArray) {k : Nat} {y : UInt8} (h : s.data.toList[k]? = some y) : ((Utf8.decode s k).1 = 44 ↔ y.toNat = 44) ∧ (y.toNat = 44 → (Utf8.decode s k).2 = 1) := by
 have hy := ZD4 h
 have hre : Utf8.runeError ≠ 44 := by decide
 unfold Utf8.decode
 simp only [Nat.add_zero, hy]
 by_cases h1 : y.toNat < 128
 ·rw [if_pos h1]; exact ⟨Iff.rfl, fun _ => rfl⟩
 ·rw [if_neg h1]
  refine ⟨⟨fun h2 => ?_, fun h2 => by omega⟩, fun h2 => by omega⟩
  exfalso
  revert h2
  repeat' split
  all_goals first | (intro h2; exact hre h2) | (intro h2; simp only at h2; simp_all; done) | (intro h2; simp only at h2; rename_i q; simp only [Bool.and_eq_true, decide_eq_true_iff] at q; omega) | (intro h2; simp only at h2; rename_i q; omega)
theorem ZBq (z : ByteArray) : ∀ (d k : Nat), z.size - k = d → Zcb z k = some ((z.data.toList.drop k).all fun c => c.toNat == 44) := by
 intro d
 induction d with
 | zero =>
  intro k hk
  rw [Zcb, if_neg (by rw [decide_eq_true_iff]; omega), List.drop_eq_nil_of_le (by rw [sz]; omega)]; rfl
 | succ d ih =>
  intro k hk
  obtain ⟨y, hy⟩ : ∃ y, z.data.toList[k]? = some y := ⟨_, List.getElem?_eq_getElem (by rw [sz]; omega)⟩
  obtain ⟨h1, h2⟩ := Zx5 z hy
  rw [Zcb, if_pos (by rw [decide_eq_true_iff]; omega), Zi8 hy, List.all_cons, show (44 : Int) = ((44 : Nat) : Int) from rfl, bne, ZdV]
  by_cases h : y.toNat = 44
  ·rw [h1.2 h, h2 h, ih (k + 1) (by omega), h]; rfl
  ·have e : ((Utf8.decode z k).1 == 44) = false := by rw [beq_eq_false_iff_ne]; exact fun q => h (h1.1 q)
   have e2 : (y.toNat == 44) = false := by rw [beq_eq_false_iff_ne]; exact h
   rw [e, e2]; rfl

def Ztj (j : Nat) : List UInt8 := 40 :: (List.replicate j 44 ++ [41])
theorem Zu1 (j : Nat) : (Ztj j).length = j + 2 := by unfold Ztj; simp
def Zr6 (l : List UInt8) : Bool := (List.range 6).any fun j => l == Ztj (j + 1)
theorem shape {l : List UInt8} {a b : UInt8} (h3 : 3 ≤ l.length) (ha : l[0]? = some a) (hb : l[l.length - 1]? = some b) : l = a :: ((l.drop 1).take (l.length - 2) ++ [b]) := by
 cases l with
 | nil => simp at h3
 | cons c t =>
  have hc : c = a := by simpa using ha
  subst hc
  have ht : t ≠ [] := by intro h; subst h; simp at h3
  have hlast : t.getLast ht = b := by
   rw [List.getLast_eq_getElem]
   have : (c :: t)[(c :: t).length - 1]? = t[t.length - 1]? := by
    have e : (c :: t).length - 1 = (t.length - 1) + 1 := by simp only [List.length_cons] at h3 ⊢; omega
    rw [e, List.getElem?_cons_succ]
   rw [this] at hb
   exact (List.getElem?_eq_some_iff.1 hb).2
  have e2 : (c :: t).length - 2 = t.length - 1 := by simp only [List.length_cons]; omega
  rw [e2]
  show c :: t = c :: (t.take (t.length - 1) ++ [b])
  rw [← List.dropLast_eq_take, ← hlast, List.dropLast_concat_getLast]
theorem ZBe {l : List UInt8} {a b : UInt8} (h3 : 3 ≤ l.length) (h8 : l.length ≤ 8) (ha : l[0]? = some a) (hb : l[l.length - 1]? = some b) :
  Zr6 l = (a.toNat == 40 && b.toNat == 41 && ((l.drop 1).take (l.length - 2)).all fun c => c.toNat == 44) := by
 have hs := shape h3 ha hb
 have hml : ((l.drop 1).take (l.length - 2)).length = l.length - 2 := by rw [List.length_take, List.length_drop]; omega
 rw [Bool.eq_iff_iff]
 unfold Zr6
 rw [List.any_eq_true, Bool.and_eq_true, Bool.and_eq_true, beq_iff_eq, beq_iff_eq, List.all_eq_true]
 constructor
 ·rintro ⟨j, hj, h⟩
  rw [beq_iff_eq] at h
  have hl := congrArg List.length h
  rw [Zu1] at hl
  have hj2 : l.length - 2 = j + 1 := by omega
  rw [hj2] at hs ⊢
  rw [h] at hs
  unfold Ztj at hs
  injection hs with h1 h2
  have h4 := List.append_inj h2 (by rw [List.length_replicate, List.length_take, List.length_drop]; simp)
  refine ⟨⟨by rw [← h1]; rfl, ?_⟩, fun x hx => ?_⟩
  ·have := h4.2; injection this with h5; rw [← h5]; rfl
  ·rw [h] at hx
   unfold Ztj at hx
   rw [← h4.1] at hx
   rw [List.eq_of_mem_replicate hx]; rfl
 ·rintro ⟨⟨h1, h2⟩, h4⟩
  refine ⟨l.length - 3, List.mem_range.2 (by omega), ?_⟩
  rw [beq_iff_eq]
  have ZIL : a = 40 := UInt8.toNat_inj.1 h1
  have ZIA : b = 41 := UInt8.toNat_inj.1 h2
  have hm : (l.drop 1).take (l.length - 2) = List.replicate (l.length - 2) 44 := by
   refine List.eq_replicate_iff.2 ⟨hml, fun x hx => ?_⟩
   have := h4 x hx
   rw [beq_iff_eq] at this
   exact UInt8.toNat_inj.1 this
  rw [hm, ZIL, ZIA] at hs
  unfold Ztj
  rw [show l.length - 3 + 1 = l.length - 2 from by omega]
  exact hs
def Zup (l : List UInt8) : Bool := (l == [45, 62] || l == [91, 93]) || l == [40, 41]
theorem ZFT (s : ByteArray) (hs : s.size ≤ 1000000000) : Zem s = some (Zup s.data.toList || Zr6 s.data.toList) := by
 unfold Zem
 have e0 : (((s.toList == (ByteArray.mk #[45, 62]).toList) || (s.toList == (ByteArray.mk #[91, 93]).toList)) || (s.toList == (ByteArray.mk #[40, 41]).toList)) = Zup s.data.toList := by
  rw [ZaZ, ZaZ, ZaZ, ZaZ]; rfl
 rw [e0]
 cases Zup s.data.toList with
 | true => rfl
 | false =>
  rw [ifF, Bool.false_or]
  by_cases hn : 3 ≤ s.size ∧ s.size ≤ 8
  ·have hlen : s.data.toList.length = s.size := sz s
   obtain ⟨a, ha⟩ : ∃ a, s.data.toList[0]? = some a := ⟨_, List.getElem?_eq_getElem (by omega)⟩
   obtain ⟨b, hb⟩ : ∃ b, s.data.toList[s.size - 1]? = some b := ⟨_, List.getElem?_eq_getElem (by omega)⟩
   have hc : (decide (((s.size : Nat) : Int) < 3) || decide (((s.size : Nat) : Int) > 8)) = false := by
    rw [Bool.or_eq_false_iff]; exact ⟨decide_eq_false (by omega), decide_eq_false (by omega)⟩
   have hb0 : btI s 0 = some a := by have := ZeB s 0; rw [ha] at this; exact this
   have e1 : IntKind.i64.wrap (((s.size : Nat) : Int) - 1) = ((s.size - 1 : Nat) : Int) := by rw [w64 (by omega) (by omega)]; omega
   rw [ZBe (by omega) (by omega) ha (by rw [hlen]; exact hb), hc, orF, hb0, Zn, Zn, show (40 : Int) = ((40 : Nat) : Int) from rfl, bne, ZdV]
   cases h40 : (a.toNat == 40) with
   | false => rw [Bool.not_false, orT, ifT]; rfl
   | true =>
    rw [Bool.not_true, orF, e1, ZeB, hb, Zn, Zn, show (41 : Int) = ((41 : Nat) : Int) from rfl, bne, ZdV]
    cases h41 : (b.toNat == 41) with
    | false => rw [Bool.not_false, ifT]; rfl
    | true =>
     have hsl : slS s 1 ((s.size - 1 : Nat) : Int) = some (s.extract 1 (s.size - 1)) := Zos s 1 (s.size - 1) (by omega) (by omega)
     rw [Bool.not_true, ifF, hsl, Zn, ZBq _ _ 0 rfl, List.drop_zero, Zfm, hlen, show s.size - 1 - 1 = s.size - 2 from by omega]; rfl
  ·have hc : (decide (((s.size : Nat) : Int) < 3) || decide (((s.size : Nat) : Int) > 8)) = true := by
    rw [Bool.or_eq_true, decide_eq_true_iff, decide_eq_true_iff]; omega
   rw [hc, orT, orT, ifT]
   have : Zr6 s.data.toList = false := by
    cases h : Zr6 s.data.toList with
    | false => rfl
    | true =>
     unfold Zr6 at h
     rw [List.any_eq_true] at h
     obtain ⟨j, hj, h⟩ := h
     rw [beq_iff_eq] at h
     have hl := congrArg List.length h
     rw [Zu1, sz] at hl
     have := List.mem_range.1 hj
     omega
   rw [this]

theorem ZHf (n : Nat) (hn : n ≤ 1000) : ∀ (d i : Nat) (s : ByteArray), n - i = d → i ≤ n → s.size ≤ i + 1 → Zaw ((n : Nat) : Int) s i = some (mkB (s.data.toList ++ (List.replicate (n - i) 44 ++ [41]))) := by
 have e41 : (ByteArray.mk #[41]).size = 1 := rfl
 have e44 : (ByteArray.mk #[44]).size = 1 := rfl
 intro d
 induction d with
 | zero =>
  intro i s hd hi hs
  rw [Zaw, if_neg (by rw [decide_eq_true_iff]; omega), Zde _ (by rw [Zpi, e41]; omega), show n - i = 0 from by omega]
  exact congrArg some (ZfB (by rw [ZmE, Zey]; rfl))
 | succ d ih =>
  intro i s hd hi hs
  rw [Zaw, if_pos (by rw [decide_eq_true_iff]; omega), Zde _ (by rw [Zpi, e44]; omega), Zde _ (by omega), ih (i + 1) _ (by omega) (by omega) (by rw [Zrm, e44]; omega)]
  congr 2
  rw [ZmE, show n - i = (n - (i + 1)) + 1 from by omega, List.replicate_succ, List.append_assoc]; rfl
theorem tn (n : Nat) (h1 : 1 ≤ n) (hn : n ≤ 1000) : Zci ((n : Nat) : Int) = some (mkB (Ztj (n - 1))) := by
 unfold Zci
 rw [ZHf n hn _ 1 _ rfl h1 (by decide)]
 rfl
theorem ZIe (s : ByteArray) : ∀ (d k : Nat), 8 - k = d → 2 ≤ k → k ≤ 8 → ∃ r, Zbf s k = some r ∧ decide (r > 0) = (List.range' k (8 - k)).any fun j => s.data.toList == Ztj (j - 1) := by
 intro d
 induction d with
 | zero =>
  intro k hd h2 h8
  refine ⟨0, ?_, ?_⟩
  ·rw [Zbf, if_neg (by rw [decide_eq_true_iff]; omega)]
  ·rw [hd]; rfl
 | succ d ih =>
  intro k hd h2 h8
  obtain ⟨r, hr, hr2⟩ := ih (k + 1) (by omega) (by omega) (by omega)
  rw [Zbf, if_pos (by rw [decide_eq_true_iff]; omega), tn k (by omega) (by omega), Zn, ZaZ, ZaZ, Zey]
  have e : List.range' k (8 - k) = k :: List.range' (k + 1) (8 - (k + 1)) := by rw [show 8 - k = (8 - (k + 1)) + 1 from by omega]; exact List.range'_succ ..
  rw [e, List.any_cons]
  cases h : (s.data.toList == Ztj (k - 1)) with
  | true => exact ⟨_, by rw [ifT], by rw [Bool.true_or]; exact decide_eq_true (by omega)⟩
  | false => exact ⟨r, by rw [ifF, Zde _ (by omega), hr], by rw [Bool.false_or, hr2]⟩
theorem ZA6 (s : ByteArray) : ∃ r, ZdS s = some r ∧ decide (r > 0) = Zr6 s.data.toList := by
 obtain ⟨r, h1, h2⟩ := ZIe s 6 2 rfl (by omega) (by omega)
 refine ⟨r, h1, h2.trans ?_⟩
 unfold Zr6
 rfl
def Zyp (s : ByteArray) : Bool := (Zup s.data.toList || Zr6 s.data.toList) || ZvD s
theorem ZEE (s : ByteArray) (hs : s.size ≤ 1000000000) : ZcP s = some (Zyp s) := by
 unfold ZcP Zyp
 have e0 : ∀ o : Bool, (((o || (s.toList == (ByteArray.mk #[45, 62]).toList)) || (s.toList == (ByteArray.mk #[91, 93]).toList)) || (s.toList == (ByteArray.mk #[40, 41]).toList)) = (o || Zup s.data.toList) := fun o => by
  rw [ZaZ, ZaZ, ZaZ, ZaZ]
  unfold Zup
  simp only [Bool.or_assoc]
 obtain ⟨r, h1, h2⟩ := ZA6 s
 rw [ZGA s hs, Zn, e0, h1]
 cases ZvD s with
 | true => rw [Bool.true_or, orT, Bool.or_true]
 | false =>
  rw [Bool.false_or, Bool.or_false]
  cases Zup s.data.toList with
  | true => rfl
  | false => rw [orF, Zn, Zn, h2, Bool.false_or]

mutual
def Za.nod : Za → Nat | .mk _ _ _ ks => 1 + Za.nods ks
def Za.nods : List Za → Nat
 | [] => 0
 | k :: ks => Za.nod k + Za.nods ks
end
mutual
def Zk.nod : Zk → Nat | .mk ks => 1 + Zk.nods ks
def Zk.nods : List Zk → Nat
 | [] => 0
 | k :: ks => Zk.nod k + Zk.nods ks
end
theorem ZpH (t : Za) : t.nod = 1 + Za.nods t.fKids := by cases t; rw [Za.nod]; rfl
theorem ZlC (t : Zk) : t.nod = 1 + Zk.nods t.fArgs := by cases t; rw [Zk.nod]; rfl
theorem Zhc (k : Za) (ks : List Za) : Za.nods (k :: ks) = k.nod + Za.nods ks := by rw [Za.nods]
theorem Zg3 (k : Zk) (ks : List Zk) : Zk.nods (k :: ks) = k.nod + Zk.nods ks := by rw [Zk.nods]
def BIG : Nat := 1000000000000
theorem Zve (t : Za) : ∀ (xs : List Za) (n x : Nat), (∀ k ∈ xs, k.nod ≤ BIG → ZcF k = some ((k.nod : Nat) : Int)) → n + Za.nods xs ≤ BIG → ZcU ((n : Nat) : Int) t x xs = some ((n + Za.nods xs : Nat) : Int)
 | [], n, x, _, _ => by rw [ZcU, Za.nods]; rfl
 | k :: xs, n, x, h, hb => by
  rw [Zhc] at hb ⊢
  have hB : BIG = 1000000000000 := rfl
  rw [ZcU, h k (by simp) (by omega), Zn, w64 (by omega) (by omega)]
  have := Zve t xs (n + k.nod) (x + 1) (fun j hj => h j (by simp [hj])) (by omega)
  rw [show ((n : Nat) : Int) + ((k.nod : Nat) : Int) = ((n + k.nod : Nat) : Int) from by omega, this, Nat.add_assoc]
theorem ZzE (t : Za) : t.nod ≤ BIG → ZcF t = some ((t.nod : Nat) : Int) := by
 refine Za.ind (M := fun t => t.nod ≤ BIG → ZcF t = some ((t.nod : Nat) : Int)) (fun v ih hb => ?_) t
 rw [ZpH] at hb ⊢
 rw [ZcF]
 exact Zve v v.fKids 1 0 ih hb
theorem ZuL (t : Za) : ∀ (xs : List Za) (n x : Nat), (∀ k ∈ xs, k.nod ≤ BIG → ZaL k = some ((k.nod : Nat) : Int)) → n + Za.nods xs ≤ BIG → Za4 ((n : Nat) : Int) x t xs = some ((n + Za.nods xs : Nat) : Int)
 | [], n, x, _, _ => by rw [Za4, Za.nods]; rfl
 | k :: xs, n, x, h, hb => by
  rw [Zhc] at hb ⊢
  have hB : BIG = 1000000000000 := rfl
  rw [Za4, h k (by simp) (by omega), Zn, w64 (by omega) (by omega)]
  have := ZuL t xs (n + k.nod) (x + 1) (fun j hj => h j (by simp [hj])) (by omega)
  rw [show ((n : Nat) : Int) + ((k.nod : Nat) : Int) = ((n + k.nod : Nat) : Int) from by omega, this, Nat.add_assoc]
theorem Zwj (t : Za) : t.nod ≤ BIG → ZaL t = some ((t.nod : Nat) : Int) := by
 refine Za.ind (M := fun t => t.nod ≤ BIG → ZaL t = some ((t.nod : Nat) : Int)) (fun v ih hb => ?_) t
 rw [ZpH] at hb ⊢
 rw [ZaL]
 exact ZuL v v.fKids 1 0 ih hb
theorem ZsV (t : Zk) : ∀ (xs : List Zk) (n x : Nat), (∀ k ∈ xs, k.nod ≤ BIG → ZbS k = some ((k.nod : Nat) : Int)) → n + Zk.nods xs ≤ BIG → Zbs ((n : Nat) : Int) t x xs = some ((n + Zk.nods xs : Nat) : Int)
 | [], n, x, _, _ => by rw [Zbs, Zk.nods]; rfl
 | k :: xs, n, x, h, hb => by
  rw [Zg3] at hb ⊢
  have hB : BIG = 1000000000000 := rfl
  rw [Zbs, h k (by simp) (by omega), Zn, w64 (by omega) (by omega)]
  have := ZsV t xs (n + k.nod) (x + 1) (fun j hj => h j (by simp [hj])) (by omega)
  rw [show ((n : Nat) : Int) + ((k.nod : Nat) : Int) = ((n + k.nod : Nat) : Int) from by omega, this, Nat.add_assoc]
theorem ZBw (t : Zk) : t.nod ≤ BIG → ZbS t = some ((t.nod : Nat) : Int) := by
 refine Zk.ind (M := fun t => t.nod ≤ BIG → ZbS t = some ((t.nod : Nat) : Int)) (fun v ih hb => ?_) t
 rw [ZlC] at hb ⊢
 rw [ZbS]
 exact ZsV v v.fArgs 1 0 ih hb
theorem ZsE (t : Zk) : ∀ (xs : List Zk) (n x : Nat), (∀ k ∈ xs, k.nod ≤ BIG → Zav k = some ((k.nod : Nat) : Int)) → n + Zk.nods xs ≤ BIG → Zat ((n : Nat) : Int) x t xs = some ((n + Zk.nods xs : Nat) : Int)
 | [], n, x, _, _ => by rw [Zat, Zk.nods]; rfl
 | k :: xs, n, x, h, hb => by
  rw [Zg3] at hb ⊢
  have hB : BIG = 1000000000000 := rfl
  rw [Zat, h k (by simp) (by omega), Zn, w64 (by omega) (by omega)]
  have := ZsE t xs (n + k.nod) (x + 1) (fun j hj => h j (by simp [hj])) (by omega)
  rw [show ((n : Nat) : Int) + ((k.nod : Nat) : Int) = ((n + k.nod : Nat) : Int) from by omega, this, Nat.add_assoc]
theorem ZBh (t : Zk) : t.nod ≤ BIG → Zav t = some ((t.nod : Nat) : Int) := by
 refine Zk.ind (M := fun t => t.nod ≤ BIG → Zav t = some ((t.nod : Nat) : Int)) (fun v ih hb => ?_) t
 rw [ZlC] at hb ⊢
 rw [Zav]
 exact ZsE v v.fArgs 1 0 ih hb

mutual
def Za.dep : Za → Nat | .mk _ _ _ ks => Za.deps ks + 1
def Za.deps : List Za → Nat
 | [] => 0
 | k :: ks => max (Za.dep k) (Za.deps ks)
end
mutual
def Zk.dep : Zk → Nat | .mk ks => Zk.deps ks + 1
def Zk.deps : List Zk → Nat
 | [] => 0
 | k :: ks => max (Zk.dep k) (Zk.deps ks)
end
theorem ZvS (t : Za) : t.dep = Za.deps t.fKids + 1 := by cases t; rw [Za.dep]; rfl
theorem Zts (t : Zk) : t.dep = Zk.deps t.fArgs + 1 := by cases t; rw [Zk.dep]; rfl
theorem Zk8 (k : Za) (ks : List Za) : Za.deps (k :: ks) = max k.dep (Za.deps ks) := by rw [Za.deps]
theorem Zn4 (k : Zk) (ks : List Zk) : Zk.deps (k :: ks) = max k.dep (Zk.deps ks) := by rw [Zk.deps]
theorem ZwB (t : Za) : t.dep ≤ t.nod := by
 refine Za.ind (M := fun t => t.dep ≤ t.nod) (fun v ih => ?_) t
 have key : ∀ l : List Za, (∀ k ∈ l, k.dep ≤ k.nod) → Za.deps l ≤ Za.nods l := fun l => by
  induction l with
  | nil => intro _; rw [Za.deps, Za.nods]; exact Nat.le_refl _
  | cons k ks ihl => intro h; rw [Zk8, Zhc]; have h1 := h k (by simp); have h2 := ihl fun j hj => h j (by simp [hj]); omega
 have := key v.fKids ih
 rw [ZvS, ZpH]; omega
theorem ZuF (t : Zk) : t.dep ≤ t.nod := by
 refine Zk.ind (M := fun t => t.dep ≤ t.nod) (fun v ih => ?_) t
 have key : ∀ l : List Zk, (∀ k ∈ l, k.dep ≤ k.nod) → Zk.deps l ≤ Zk.nods l := fun l => by
  induction l with
  | nil => intro _; rw [Zk.deps, Zk.nods]; exact Nat.le_refl _
  | cons k ks ihl => intro h; rw [Zn4, Zg3]; have h1 := h k (by simp); have h2 := ihl fun j hj => h j (by simp [hj]); omega
 have := key v.fArgs ih
 rw [Zts, ZlC]; omega
theorem ZgV (a b : Nat) : (if ((a : Nat) : Int) > ((b : Nat) : Int) then ((a : Nat) : Int) else ((b : Nat) : Int)) = ((max b a : Nat) : Int) := by
 split <;> omega
theorem Zs3 (t : Za) : ∀ (xs : List Za) (n x : Nat), (∀ k ∈ xs, k.nod ≤ BIG → Zcg k = some ((k.dep : Nat) : Int)) → Za.nods xs ≤ BIG → n ≤ BIG → Zcr ((n : Nat) : Int) t x xs = some ((max n (Za.deps xs) + 1 : Nat) : Int)
 | [], n, x, _, _, hn => by
  have hB : BIG = 1000000000000 := rfl
  rw [Zcr, Za.deps, w64 (by omega) (by omega)]
  rw [Nat.max_eq_left (Nat.zero_le _)]; rfl
 | k :: xs, n, x, h, hb, hn => by
  rw [Zhc] at hb
  rw [Zk8]
  have hd := ZwB k
  have hB : BIG = 1000000000000 := rfl
  rw [Zcr, h k (by simp) (by omega), Zn, ZgV]
  rw [Zs3 t xs (max n k.dep) (x + 1) (fun j hj => h j (by simp [hj])) (by omega) (by omega), Nat.max_assoc]
theorem ZxC (t : Za) : t.nod ≤ BIG → Zcg t = some ((t.dep : Nat) : Int) := by
 refine Za.ind (M := fun t => t.nod ≤ BIG → Zcg t = some ((t.dep : Nat) : Int)) (fun v ih hb => ?_) t
 rw [ZpH] at hb
 rw [ZvS, Zcg]
 have := Zs3 v v.fKids 0 0 ih (by omega) (Nat.zero_le _)
 rw [Nat.max_eq_right (Nat.zero_le _)] at this
 exact this
theorem Zs6 (t : Za) : ∀ (xs : List Za) (n x : Nat), (∀ k ∈ xs, k.nod ≤ BIG → ZaG k = some ((k.dep : Nat) : Int)) → Za.nods xs ≤ BIG → n ≤ BIG → ZaU ((n : Nat) : Int) x t xs = some ((max n (Za.deps xs) + 1 : Nat) : Int)
 | [], n, x, _, _, hn => by
  have hB : BIG = 1000000000000 := rfl
  rw [ZaU, Za.deps, w64 (by omega) (by omega)]
  rw [Nat.max_eq_left (Nat.zero_le _)]; rfl
 | k :: xs, n, x, h, hb, hn => by
  rw [Zhc] at hb
  rw [Zk8]
  have hd := ZwB k
  have hB : BIG = 1000000000000 := rfl
  rw [ZaU, h k (by simp) (by omega), Zn, ZgV]
  rw [Zs6 t xs (max n k.dep) (x + 1) (fun j hj => h j (by simp [hj])) (by omega) (by omega), Nat.max_assoc]
theorem Zs9 (t : Za) : t.nod ≤ BIG → ZaG t = some ((t.dep : Nat) : Int) := by
 refine Za.ind (M := fun t => t.nod ≤ BIG → ZaG t = some ((t.dep : Nat) : Int)) (fun v ih hb => ?_) t
 rw [ZpH] at hb
 rw [ZvS, ZaG]
 have := Zs6 v v.fKids 0 0 ih (by omega) (Nat.zero_le _)
 rw [Nat.max_eq_right (Nat.zero_le _)] at this
 exact this
theorem ZqQ (t : Zk) : ∀ (xs : List Zk) (n x : Nat), (∀ k ∈ xs, k.nod ≤ BIG → Zbu k = some ((k.dep : Nat) : Int)) → Zk.nods xs ≤ BIG → n ≤ BIG → Za7 ((n : Nat) : Int) t x xs = some ((max n (Zk.deps xs) + 1 : Nat) : Int)
 | [], n, x, _, _, hn => by
  have hB : BIG = 1000000000000 := rfl
  rw [Za7, Zk.deps, w64 (by omega) (by omega)]
  rw [Nat.max_eq_left (Nat.zero_le _)]; rfl
 | k :: xs, n, x, h, hb, hn => by
  rw [Zg3] at hb
  rw [Zn4]
  have hd := ZuF k
  have hB : BIG = 1000000000000 := rfl
  rw [Za7, h k (by simp) (by omega), Zn, ZgV]
  rw [ZqQ t xs (max n k.dep) (x + 1) (fun j hj => h j (by simp [hj])) (by omega) (by omega), Nat.max_assoc]
theorem Zzy (t : Zk) : t.nod ≤ BIG → Zbu t = some ((t.dep : Nat) : Int) := by
 refine Zk.ind (M := fun t => t.nod ≤ BIG → Zbu t = some ((t.dep : Nat) : Int)) (fun v ih hb => ?_) t
 rw [ZlC] at hb
 rw [Zts, Zbu]
 have := ZqQ v v.fArgs 0 0 ih (by omega) (Nat.zero_le _)
 rw [Nat.max_eq_right (Nat.zero_le _)] at this
 exact this
theorem ZrS (t : Zk) : ∀ (xs : List Zk) (n x : Nat), (∀ k ∈ xs, k.nod ≤ BIG → Zan k = some ((k.dep : Nat) : Int)) → Zk.nods xs ≤ BIG → n ≤ BIG → Zaj ((n : Nat) : Int) x t xs = some ((max n (Zk.deps xs) + 1 : Nat) : Int)
 | [], n, x, _, _, hn => by
  have hB : BIG = 1000000000000 := rfl
  rw [Zaj, Zk.deps, w64 (by omega) (by omega)]
  rw [Nat.max_eq_left (Nat.zero_le _)]; rfl
 | k :: xs, n, x, h, hb, hn => by
  rw [Zg3] at hb
  rw [Zn4]
  have hd := ZuF k
  have hB : BIG = 1000000000000 := rfl
  rw [Zaj, h k (by simp) (by omega), Zn, ZgV]
  rw [ZrS t xs (max n k.dep) (x + 1) (fun j hj => h j (by simp [hj])) (by omega) (by omega), Nat.max_assoc]
theorem ZzL (t : Zk) : t.nod ≤ BIG → Zan t = some ((t.dep : Nat) : Int) := by
 refine Zk.ind (M := fun t => t.nod ≤ BIG → Zan t = some ((t.dep : Nat) : Int)) (fun v ih hb => ?_) t
 rw [ZlC] at hb
 rw [Zts, Zan]
 have := ZrS v v.fArgs 0 0 ih (by omega) (Nat.zero_le _)
 rw [Nat.max_eq_right (Nat.zero_le _)] at this
 exact this

mutual
def Za.vol : Za → Nat | .mk _ s b ks => 1 + s.size + b.nod + Za.vols ks
def Za.vols : List Za → Nat
 | [] => 0
 | k :: ks => Za.vol k + Za.vols ks
end
mutual
def Za.gks : Za → Nat | .mk _ _ b ks => max b.nod (Za.gkss ks)
def Za.gkss : List Za → Nat
 | [] => 0
 | k :: ks => max (Za.gks k) (Za.gkss ks)
end
mutual
def Za.gkd : Za → Nat | .mk _ _ b ks => max b.dep (Za.gkds ks)
def Za.gkds : List Za → Nat
 | [] => 0
 | k :: ks => max (Za.gkd k) (Za.gkds ks)
end
mutual
def Za.nmx : Za → Nat | .mk _ s _ ks => max s.size (Za.nmxs ks)
def Za.nmxs : List Za → Nat
 | [] => 0
 | k :: ks => max (Za.nmx k) (Za.nmxs ks)
end
theorem ZtR (t : Za) : t.nmx = max t.fName.size (Za.nmxs t.fKids) := by cases t; rw [Za.nmx]; rfl
theorem Zjl (k : Za) (ks : List Za) : Za.nmxs (k :: ks) = max k.nmx (Za.nmxs ks) := by rw [Za.nmxs]
theorem ZtJ {k : Za} : ∀ {l : List Za}, k ∈ l → k.nmx ≤ Za.nmxs l
 | j :: l, h => by
  rw [Zjl]
  rcases List.mem_cons.1 h with rfl | h
  ·omega
  ·have := ZtJ h; omega
theorem Zor (t : Za) : t.vol = 1 + t.fName.size + t.fBound.nod + Za.vols t.fKids := by cases t; rw [Za.vol]; rfl
theorem Zzh (t : Za) : t.gks = max t.fBound.nod (Za.gkss t.fKids) := by cases t; rw [Za.gks]; rfl
theorem Zyw (t : Za) : t.gkd = max t.fBound.dep (Za.gkds t.fKids) := by cases t; rw [Za.gkd]; rfl
theorem Zjp (k : Za) (ks : List Za) : Za.vols (k :: ks) = k.vol + Za.vols ks := by rw [Za.vols]
theorem Znl (k : Za) (ks : List Za) : Za.gkss (k :: ks) = max k.gks (Za.gkss ks) := by rw [Za.gkss]
theorem Znp (k : Za) (ks : List Za) : Za.gkds (k :: ks) = max k.gkd (Za.gkds ks) := by rw [Za.gkds]
theorem Zqw {k : Za} : ∀ {l : List Za}, k ∈ l → k.vol ≤ Za.vols l
 | j :: l, h => by
  rw [Zjp]
  rcases List.mem_cons.1 h with rfl | h
  ·omega
  ·have := Zqw h; omega
theorem ZoL (t : Za) : t.nod ≤ t.vol := by
 refine Za.ind (M := fun t => t.nod ≤ t.vol) (fun v ih => ?_) t
 have key : ∀ l : List Za, (∀ k ∈ l, k.nod ≤ k.vol) → Za.nods l ≤ Za.vols l := fun l => by
  induction l with
  | nil => intro _; rw [Za.nods, Za.vols]; exact Nat.le_refl _
  | cons k ks ihl => intro h; rw [Zhc, Zjp]; have h1 := h k (by simp); have h2 := ihl fun j hj => h j (by simp [hj]); omega
 have := key v.fKids ih
 rw [ZpH, Zor]; omega
theorem Ztv (t : Za) : t.nmx ≤ t.vol := by
 refine Za.ind (M := fun t => t.nmx ≤ t.vol) (fun v ih => ?_) t
 have key : ∀ l : List Za, (∀ k ∈ l, k.nmx ≤ k.vol) → Za.nmxs l ≤ Za.vols l := fun l => by
  induction l with
  | nil => intro _; rw [Za.nmxs, Za.vols]; exact Nat.le_refl _
  | cons k ks ihl => intro h; rw [Zjl, Zjp]; have h1 := h k (by simp); have h2 := ihl fun j hj => h j (by simp [hj]); omega
 have := key v.fKids ih
 rw [ZtR, Zor]; omega
theorem Zw1 (t : Za) : ∀ (xs : List Za) (n x : Nat), (∀ k ∈ xs, ZH k = some ((k.gks : Nat) : Int)) → ZM ((n : Nat) : Int) t x xs = some ((max n (Za.gkss xs) : Nat) : Int)
 | [], n, x, _ => by rw [ZM, Za.gkss, Nat.max_eq_left (Nat.zero_le _)]
 | k :: xs, n, x, h => by
  rw [ZM, h k (by simp), Zn, ZgV, Zw1 t xs _ _ (fun j hj => h j (by simp [hj])), Znl, Nat.max_assoc]
theorem ZGC (t : Za) : t.vol ≤ BIG → ZH t = some ((t.gks : Nat) : Int) := by
 refine Za.ind (M := fun t => t.vol ≤ BIG → ZH t = some ((t.gks : Nat) : Int)) (fun v ih hb => ?_) t
 rw [Zor] at hb
 rw [ZH, ZBw _ (by omega), Zn, Zw1 v v.fKids _ 0 (fun k hk => ih k hk (by have := Zqw hk; omega)), Zzh]
theorem ZwX (t : Za) : ∀ (xs : List Za) (n x : Nat), (∀ k ∈ xs, ZE k = some ((k.gkd : Nat) : Int)) → ZI ((n : Nat) : Int) t x xs = some ((max n (Za.gkds xs) : Nat) : Int)
 | [], n, x, _ => by rw [ZI, Za.gkds, Nat.max_eq_left (Nat.zero_le _)]
 | k :: xs, n, x, h => by
  rw [ZI, h k (by simp), Zn, ZgV, ZwX t xs _ _ (fun j hj => h j (by simp [hj])), Znp, Nat.max_assoc]
theorem ZEF (t : Za) : t.vol ≤ BIG → ZE t = some ((t.gkd : Nat) : Int) := by
 refine Za.ind (M := fun t => t.vol ≤ BIG → ZE t = some ((t.gkd : Nat) : Int)) (fun v ih hb => ?_) t
 rw [Zor] at hb
 rw [ZE, Zzy _ (by omega), Zn, ZwX v v.fKids _ 0 (fun k hk => ih k hk (by have := Zqw hk; omega)), Zyw]
theorem ZsZ (t : Za) : ∀ (xs : List Za) (a b x : Nat), (∀ k ∈ xs, Za3 k = some (((k.gks : Nat) : Int), ((k.gkd : Nat) : Int))) → ZaV ((a : Nat) : Int) ((b : Nat) : Int) x t xs = some (((max a (Za.gkss xs) : Nat) : Int), ((max b (Za.gkds xs) : Nat) : Int))
 | [], a, b, x, _ => by rw [ZaV, Za.gkss, Za.gkds, Nat.max_eq_left (Nat.zero_le _), Nat.max_eq_left (Nat.zero_le _)]
 | k :: xs, a, b, x, h => by
  rw [ZaV, h k (by simp), Zn, ZgV, ZgV, ZsZ t xs _ _ _ (fun j hj => h j (by simp [hj])), Znl, Znp, Nat.max_assoc, Nat.max_assoc]
theorem ZBN (t : Za) : t.vol ≤ BIG → Za3 t = some (((t.gks : Nat) : Int), ((t.gkd : Nat) : Int)) := by
 refine Za.ind (M := fun t => t.vol ≤ BIG → Za3 t = some (((t.gks : Nat) : Int), ((t.gkd : Nat) : Int))) (fun v ih hb => ?_) t
 rw [Zor] at hb
 rw [Za3, ZBh _ (by omega), Zn, ZzL _ (by omega), Zn, ZsZ v v.fKids _ _ 0 (fun k hk => ih k hk (by have := Zqw hk; omega)), Zzh, Zyw]

def Zld (t : Za) : Bool :=
 if t.fOp = 1 then Zmm t.fName && decide (t.fBound.fArgs.length = 0) && decide (t.fKids.length = 0)
 else if t.fOp = 2 then Zyp t.fName && decide (t.fBound.fArgs.length = 0) && decide (t.fKids.length = 0)
 else if t.fOp = 3 then decide (t.fName.size = 0) && decide (t.fBound.fArgs.length = 0) && decide (t.fKids.length = 2)
 else if t.fOp = 4 then Zmm t.fName && decide (t.fKids.length = 1) else false
mutual
def Za.fms : Za → Bool | .mk o s b ks => Za.fmss ks && Zld (.mk o s b ks)
def Za.fmss : List Za → Bool
 | [] => true
 | k :: ks => Za.fms k && Za.fmss ks
end
theorem Zvw (t : Za) : t.fms = (Za.fmss t.fKids && Zld t) := by cases t; rw [Za.fms]; rfl
theorem Zjq (k : Za) (ks : List Za) : Za.fmss (k :: ks) = (k.fms && Za.fmss ks) := by rw [Za.fmss]
theorem ZmF (a b : Nat) : (((a : Nat) : Int) == ((b : Nat) : Int)) = decide (a = b) := by rw [ZdV, Bool.eq_iff_iff, beq_iff_eq, decide_eq_true_iff]
theorem ZC7 (a b : Int) : ((a == b) = true) = (a = b) := by rw [beq_iff_eq]
theorem Zvl (t : Za) (ht : t.fName.size ≤ 1000000000) : ∀ (xs : List Za) (x : Nat), (∀ k ∈ xs, ZaQ k = some k.fms) → ZaM x t xs = some (Za.fmss xs && Zld t)
 | [], x, _ => by
  have e0 := ZmF t.fBound.fArgs.length 0
  have e1 := ZmF t.fKids.length 0
  have e2 := ZmF t.fKids.length 2
  have e3 := ZmF t.fKids.length 1
  simp only [Int.natCast_zero, Int.cast_ofNat_Int] at e0 e1 e2 e3
  rw [ZaM, Za.fmss, Bool.true_and]
  unfold Zld
  simp only [ZC7]
  rw [ZBR _ ht, ZEE _ ht, Znu]
  split
  ·rw [Zn, e0, e1]
  ·split
   ·rw [Zn, e0, e1]
   ·split
    ·rw [e0, e2]
    ·split
     ·rw [Zn, e3]
     ·rfl
 | k :: xs, x, h => by
  rw [ZaM, h k (by simp), Zn, Zjq]
  cases k.fms with
  | false => rfl
  | true => rw [Bool.not_true, ifF, Zvl t ht xs _ (fun j hj => h j (by simp [hj])), Bool.true_and]
theorem ZDa (t : Za) : t.nmx ≤ 1000000000 → ZaQ t = some t.fms := by
 refine Za.ind (M := fun t => t.nmx ≤ 1000000000 → ZaQ t = some t.fms) (fun v ih hb => ?_) t
 rw [ZtR] at hb
 rw [ZaQ, Zvl v (by omega) v.fKids 0 (fun k hk => ih k hk (by have := ZtJ hk; omega)), Zvw]

theorem ZxH (s : List Za) : ∀ (xs : List Za) (x : Nat), (∀ k ∈ xs, Zb2 k = some k.fms) → ∃ r, Zz s x xs = some r ∧ decide (r ≥ 0) = !Za.fmss xs
 | [], x, _ => ⟨-1, by rw [Zz], by rw [Za.fmss]; rfl⟩
 | k :: xs, x, h => by
  obtain ⟨r, h1, h2⟩ := ZxH s xs (x + 1) (fun j hj => h j (by simp [hj]))
  have hk : Zdj k = some (!k.fms) := by rw [Zdj, h k (by simp), Zn]
  rw [Zz, hk, Zn, Zjq]
  cases k.fms with
  | false => exact ⟨_, by rw [Bool.not_false, ifT], decide_eq_true (by omega)⟩
  | true => exact ⟨r, by rw [Bool.not_true, ifF, h1], by rw [h2, Bool.true_and]⟩
theorem ZC5 (s : List Za) (h : ∀ k ∈ s, Zb2 k = some k.fms) : ZF s = some (!Za.fmss s) := by
 obtain ⟨r, h1, h2⟩ := ZxH s s 0 h
 rw [ZF, ZX, h1, Zn, h2]
theorem ZBM (op : Int) : ∃ b, ZeS (ZhW (ZhW ([] : List (Int × Int)) 3 2) 4 1) 0 op = some ((if op = 3 then 2 else if op = 4 then 1 else 0), b) := by
 by_cases h3 : op = 3
 ·subst h3; exact ⟨_, rfl⟩
 ·by_cases h4 : op = 4
  ·subst h4; exact ⟨_, rfl⟩
  ·have e3 : (op == 3) = false := by rw [beq_eq_false_iff_ne]; exact h3
   have e4 : (op == 4) = false := by rw [beq_eq_false_iff_ne]; exact h4
   rw [if_neg h3, if_neg h4]
   refine ⟨false, ?_⟩
   have hm : ZhW (ZhW ([] : List (Int × Int)) 3 2) 4 1 = [(3, 2), (4, 1)] := rfl
   rw [hm]
   unfold ZeS
   simp only [ZfN, e3, e4, Bool.false_eq_true, if_false]

theorem ZCv (t : Za) : t.nmx ≤ 1000000000 → Zb2 t = some t.fms := by
 refine Za.ind (M := fun t => t.nmx ≤ 1000000000 → Zb2 t = some t.fms) (fun v ih hb => ?_) t
 rw [ZtR] at hb
 have hk : ∀ k ∈ v.fKids, Zb2 k = some k.fms := fun k hk => ih k hk (by have := ZtJ hk; omega)
 have hs : v.fName.size ≤ 1000000000 := by omega
 obtain ⟨b, hlook⟩ := ZBM v.fOp
 have hc := ZC5 v.fKids hk
 have e0 : decide (((v.fBound.fArgs.length : Nat) : Int) > 0) = !decide (v.fBound.fArgs.length = 0) := by
  by_cases h : v.fBound.fArgs.length = 0
  ·rw [decide_eq_true h]; exact decide_eq_false (by omega)
  ·rw [decide_eq_false h]; exact decide_eq_true (by omega)
 have ek : ∀ n : Nat, (((v.fKids.length : Nat) : Int) != ((n : Nat) : Int)) = !decide (v.fKids.length = n) := fun n => by rw [bne, ZmF]
 have ek0 := ek 0
 have ek1 := ek 1
 have ek2 := ek 2
 simp only [Int.natCast_zero, Int.cast_ofNat_Int] at ek0 ek1 ek2
 rw [Zb2, hlook, Zn, hc, Znu, e0, Zvw]
 unfold ZdL Zld
 rw [Zzd _ hs, ZFT _ hs, ZFw _ hs]
 by_cases h1 : v.fOp = 1
 ·rw [h1]; simp only [Zn]
  simp only [ek0, show ((1 : Int) = 3) = False from by decide, show ((1 : Int) = 4) = False from by decide, if_false, if_true]
  cases decide (v.fBound.fArgs.length = 0) <;> cases decide (v.fKids.length = 0) <;> cases Za.fmss v.fKids <;> cases Zmm v.fName <;> rfl
 ·by_cases h2 : v.fOp = 2
  ·rw [h2]; simp only [Zn]
   simp only [ek0, show ((2 : Int) = 3) = False from by decide, show ((2 : Int) = 4) = False from by decide, show ((2 : Int) = 1) = False from by decide, if_false, if_true]
   unfold Zyp
   cases decide (v.fBound.fArgs.length = 0) <;> cases decide (v.fKids.length = 0) <;> cases Za.fmss v.fKids <;> cases (Zup v.fName.data.toList || Zr6 v.fName.data.toList) <;> cases ZvD v.fName <;> rfl
  ·by_cases h3 : v.fOp = 3
   ·rw [h3]; simp only [Zn]
    simp only [ek2, show ((3 : Int) = 4) = False from by decide, show ((3 : Int) = 1) = False from by decide, show ((3 : Int) = 2) = False from by decide, if_false, if_true]
    cases decide (v.fBound.fArgs.length = 0) <;> cases decide (v.fKids.length = 2) <;> cases Za.fmss v.fKids <;> cases decide (v.fName.size = 0) <;> rfl
   ·by_cases h4 : v.fOp = 4
    ·rw [h4]; simp only [Zn]
     simp only [ek1, show ((4 : Int) = 3) = False from by decide, show ((4 : Int) = 1) = False from by decide, show ((4 : Int) = 2) = False from by decide, if_false, if_true]
     cases decide (v.fBound.fArgs.length = 0) <;> cases decide (v.fKids.length = 1) <;> cases Za.fmss v.fKids <;> cases Zmm v.fName <;> rfl
    ·have g1 : (v.fOp == 1) = false := by rw [beq_eq_false_iff_ne]; exact h1
     have g2 : (v.fOp == 2) = false := by rw [beq_eq_false_iff_ne]; exact h2
     have g3 : (v.fOp == 3) = false := by rw [beq_eq_false_iff_ne]; exact h3
     have g4 : (v.fOp == 4) = false := by rw [beq_eq_false_iff_ne]; exact h4
     have g5 : (v.fOp != 4) = true := by rw [bne, g4]; rfl
     simp only [Zn, g1, g2, g3, g4, g5, if_neg h1, if_neg h2, if_neg h3, if_neg h4, ek0]
     cases decide (v.fBound.fArgs.length = 0) <;> cases decide (v.fKids.length = 0) <;> cases Za.fmss v.fKids <;> rfl

def Zqk (t : Za) : Int :=
 if t.fms = true then (if 20000 < t.nod ∨ 20000 < t.gks then 3 else if 100 < t.dep ∨ 100 < t.gkd then 4 else 0) else 1
theorem ZAQ (a b : Prop) [Decidable a] [Decidable b] : (decide a || decide b) = decide (a ∨ b) := by
 rw [Bool.eq_iff_iff, Bool.or_eq_true, decide_eq_true_iff, decide_eq_true_iff, decide_eq_true_iff]
theorem ZmZ (a n : Nat) : decide (((a : Nat) : Int) > ((n : Nat) : Int)) = decide (n < a) := decide_eq_decide.2 (by omega)
theorem ZuG (t : Za) (hm : t.nmx ≤ 1000000000) (h : t.vol ≤ 1000000000000) : Zcj t = some (Zqk t) := by
 have hB : BIG = 1000000000000 := rfl
 have hn := ZoL t
 have g1 := ZmZ t.nod 20000
 have g2 := ZmZ t.gks 20000
 have g3 := ZmZ t.dep 100
 have g4 := ZmZ t.gkd 100
 simp only [Int.cast_ofNat_Int] at g1 g2 g3 g4
 unfold Zcj Zqk
 rw [ZCv t hm, Zn]
 cases t.fms with
 | false => rfl
 | true =>
  rw [Bool.not_true, ifF, ifT, ZzE t (by omega), Zn, ZGC t (by omega), Zn, g1, g2, ZxC t (by omega), Zn, ZEF t (by omega), Zn, g3, g4]
  by_cases a1 : 20000 < t.nod
  ·rw [decide_eq_true a1, orT, ifT, if_pos (.inl a1)]
  ·rw [decide_eq_false a1, orF, Zn]
   by_cases a2 : 20000 < t.gks
   ·rw [decide_eq_true a2, ifT, if_pos (.inr a2)]
   ·rw [decide_eq_false a2, ifF, if_neg (show ¬ (20000 < t.nod ∨ 20000 < t.gks) from fun h => h.elim a1 a2)]
    by_cases a3 : 100 < t.dep
    ·rw [decide_eq_true a3, orT, ifT, if_pos (.inl a3)]
    ·rw [decide_eq_false a3, orF, Zn]
     by_cases a4 : 100 < t.gkd
     ·rw [decide_eq_true a4, ifT, if_pos (.inr a4)]
     ·rw [decide_eq_false a4, ifF, if_neg (show ¬ (100 < t.dep ∨ 100 < t.gkd) from fun h => h.elim a3 a4)]
theorem Zuv (t : Za) (hm : t.nmx ≤ 1000000000) (h : t.vol ≤ 1000000000000) : ZaH t = some (Zqk t) := by
 have hB : BIG = 1000000000000 := rfl
 have hn := ZoL t
 have g1 := ZmZ t.nod 20000
 have g2 := ZmZ t.gks 20000
 have g3 := ZmZ t.dep 100
 have g4 := ZmZ t.gkd 100
 simp only [Int.cast_ofNat_Int] at g1 g2 g3 g4
 unfold ZaH Zqk
 rw [ZDa t hm, Zn]
 cases t.fms with
 | false => rfl
 | true =>
  rw [Bool.not_true, ifF, ifT, ZBN t (by omega), Zn, Zwj t (by omega), Zn, g1, g2, Zs9 t (by omega), Zn, g3, g4, ZAQ, ZAQ]
  by_cases a1 : 20000 < t.nod ∨ 20000 < t.gks
  ·rw [decide_eq_true a1, ifT, if_pos a1]
  ·rw [decide_eq_false a1, ifF, if_neg a1]
   by_cases a2 : 100 < t.dep ∨ 100 < t.gkd
   ·rw [decide_eq_true a2, ifT, if_pos a2]
   ·rw [decide_eq_false a2, ifF, if_neg a2]
theorem ZA5 (t : Za) (h : t.vol ≤ 1000000000) : Zcj t = some (Zqk t) := ZuG t (Nat.le_trans (Ztv t) h) (by omega)
theorem ZBr (t : Za) (h : t.vol ≤ 1000000000) : ZaH t = some (Zqk t) := Zuv t (Nat.le_trans (Ztv t) h) (by omega)

mutual
def Za.qnt : Za → Bool | .mk o _ _ ks => (o == 4) || Za.qnts ks
def Za.qnts : List Za → Bool
 | [] => false
 | k :: ks => Za.qnt k || Za.qnts ks
end
theorem ZvX (t : Za) : t.qnt = ((t.fOp == 4) || Za.qnts t.fKids) := by cases t; rw [Za.qnt]; rfl
theorem Zjk (k : Za) (ks : List Za) : Za.qnts (k :: ks) = (k.qnt || Za.qnts ks) := by rw [Za.qnts]
theorem Zw3 (s : List Za) : ∀ (xs : List Za) (x : Nat), (∀ k ∈ xs, Za1 k = some k.qnt) → ∃ r, Zw s x xs = some r ∧ decide (r ≥ 0) = Za.qnts xs
 | [], x, _ => ⟨-1, by rw [Zw], by rw [Za.qnts]; rfl⟩
 | k :: xs, x, h => by
  obtain ⟨r, h1, h2⟩ := Zw3 s xs (x + 1) (fun j hj => h j (by simp [hj]))
  rw [Zw, h k (by simp), Zn, Zjk]
  cases k.qnt with
  | true => exact ⟨_, by rw [ifT], decide_eq_true (by omega)⟩
  | false => exact ⟨r, by rw [ifF, h1], by rw [h2, Bool.false_or]⟩
theorem ZFb (t : Za) : Za1 t = some t.qnt := by
 refine Za.ind (M := fun t => Za1 t = some t.qnt) (fun v ih => ?_) t
 obtain ⟨r, h1, h2⟩ := Zw3 v.fKids v.fKids 0 ih
 rw [Za1, ZvX]
 cases v.fOp == 4 with
 | true => rfl
 | false => rw [ZL, ZQ, h1, Zn, h2, Bool.false_or]; rfl
theorem Zxt (t : Za) : ∀ (xs : List Za) (x : Nat), (∀ k ∈ xs, Zae k = some k.qnt) → Zad x t xs = some (Za.qnts xs || (t.fOp == 4))
 | [], x, _ => by rw [Zad, Za.qnts, Bool.false_or]
 | k :: xs, x, h => by
  rw [Zad, h k (by simp), Zn, Zjk]
  cases k.qnt with
  | true => rfl
  | false => rw [ifF, Zxt t xs _ (fun j hj => h j (by simp [hj])), Bool.false_or]
theorem ZFf (t : Za) : Zae t = some t.qnt := by
 refine Za.ind (M := fun t => Zae t = some t.qnt) (fun v ih => ?_) t
 rw [Zae, Zxt v v.fKids 0 ih, ZvX, Bool.or_comm]
def ZoV (t : Za) : Bool := (Zqk t == 0) && !t.qnt
theorem ZB5 (t : Za) (h : t.vol ≤ 1000000000) : ZdW t = some (ZoV t) := by
 unfold ZdW ZoV
 rw [ZA5 t h, Zn, ZFb]
 cases Zqk t == 0 <;> rfl
theorem ZBP (t : Za) (h : t.vol ≤ 1000000000) : Zcf t = some (ZoV t) := by
 unfold Zcf ZoV
 rw [ZBr t h, Zn, ZFf]
 cases Zqk t == 0 <;> rfl
inductive ST where
 | v (s : ByteArray)
 | k (s : ByteArray)
 | a (f x : ST)
def ST.ty : ST → Za
 | .v s => Za.mk 1 s (Zk.mk []) []
 | .k s => Za.mk 2 s (Zk.mk []) []
 | .a f x => Za.mk 3 (ByteArray.mk #[]) (Zk.mk []) [f.ty, x.ty]
def ST.nod : ST → Nat
 | .v _ => 1
 | .k _ => 1
 | .a f x => 1 + f.nod + x.nod
def ST.dep : ST → Nat
 | .v _ => 1
 | .k _ => 1
 | .a f x => max f.dep x.dep + 1
def ST.nms : ST → Bool
 | .v s => Zmm s && decide (s.size ≤ 1048576)
 | .k s => Zyp s && decide (s.size ≤ 1048576)
 | .a f x => f.nms && x.nms
theorem ZC1 (k : Zk) (h : k.fArgs.length = 0) : k = Zk.mk [] := by
 cases k with | mk l => cases l with | nil => rfl | cons _ _ => cases h
theorem ZIg (s : ByteArray) (h : s.size = 0) : s = ByteArray.mk #[] := by
 apply ZfB
 have : s.data.toList.length = 0 := by rw [sz]; exact h
 rw [List.length_eq_zero_iff.1 this]
theorem ZFq (t : Za) : t.nmx ≤ 1048576 → t.fms = true → t.qnt = false → ∃ s : ST, s.ty = t ∧ s.nms = true := by
 refine Za.ind (M := fun t => t.nmx ≤ 1048576 → t.fms = true → t.qnt = false → ∃ s : ST, s.ty = t ∧ s.nms = true) (fun v ih hb hf hq => ?_) t
 rw [ZtR] at hb
 rw [Zvw, Bool.and_eq_true] at hf
 rw [ZvX, Bool.or_eq_false_iff] at hq
 obtain ⟨h1, h2⟩ := hf
 obtain ⟨op, s, b, ks⟩ := v
 have hs : s.size ≤ 1048576 := by have : (Za.mk op s b ks).fName = s := rfl; rw [this] at hb; omega
 have hk : Za.nmxs ks ≤ 1048576 := by have : (Za.mk op s b ks).fKids = ks := rfl; rw [this] at hb; omega
 replace h1 : Za.fmss ks = true := h1
 replace hq : (op == 4) = false ∧ Za.qnts ks = false := hq
 unfold Zld at h2
 have e1 : (Za.mk op s b ks).fOp = op := rfl
 have e2 : (Za.mk op s b ks).fName = s := rfl
 have e3 : (Za.mk op s b ks).fBound = b := rfl
 have e4 : (Za.mk op s b ks).fKids = ks := rfl
 rw [e1, e2, e3, e4] at h2
 by_cases o1 : op = 1
 ·rw [if_pos o1] at h2
  simp only [Bool.and_eq_true, decide_eq_true_eq] at h2
  obtain ⟨⟨h3, h4⟩, h5⟩ := h2
  refine ⟨.v s, ?_, by simp [ST.nms, h3, hs]⟩
  rw [ST.ty, ZC1 b h4, List.length_eq_zero_iff.1 h5, o1]
 ·rw [if_neg o1] at h2
  by_cases o2 : op = 2
  ·rw [if_pos o2] at h2
   simp only [Bool.and_eq_true, decide_eq_true_eq] at h2
   obtain ⟨⟨h3, h4⟩, h5⟩ := h2
   refine ⟨.k s, ?_, by simp [ST.nms, h3, hs]⟩
   rw [ST.ty, ZC1 b h4, List.length_eq_zero_iff.1 h5, o2]
  ·rw [if_neg o2] at h2
   by_cases o3 : op = 3
   ·rw [if_pos o3] at h2
    simp only [Bool.and_eq_true, decide_eq_true_eq] at h2
    obtain ⟨⟨h3, h4⟩, h5⟩ := h2
    match ks, h5, h1, hk, ih, hq.2 with
    | [f, x], _, h1, hk, ih, hq2 =>
     rw [Zjq, Zjq, Bool.and_eq_true, Bool.and_eq_true] at h1
     rw [Zjl, Zjl] at hk
     rw [Zjk, Zjk, Bool.or_eq_false_iff, Bool.or_eq_false_iff] at hq2
     obtain ⟨f', hf1, hf2⟩ := ih f (by simp [Za.fKids]) (by omega) h1.1 hq2.1
     obtain ⟨x', hx1, hx2⟩ := ih x (by simp [Za.fKids]) (by omega) h1.2.1 hq2.2.1
     refine ⟨.a f' x', ?_, by simp [ST.nms, hf2, hx2]⟩
     rw [ST.ty, hf1, hx1, ZC1 b h4, ZIg s h3, o3]
   ·rw [if_neg o3] at h2
    have o4 : ¬ op = 4 := fun h => by rw [h] at hq; simp at hq
    rw [if_neg o4] at h2
    cases h2
theorem Zvu : ∀ s : ST, s.nms = true → s.ty.fms = true
 | .v s, h => by
  simp only [ST.nms, Bool.and_eq_true] at h
  rw [ST.ty, Za.fms, Za.fmss, Zld, if_pos (show (Za.mk 1 s (Zk.mk []) []).fOp = 1 from rfl)]
  show (true && (Zmm s && true && true)) = true
  rw [h.1]; rfl
 | .k s, h => by
  simp only [ST.nms, Bool.and_eq_true] at h
  rw [ST.ty, Za.fms, Za.fmss, Zld, if_neg (show ¬ (Za.mk 2 s (Zk.mk []) []).fOp = 1 from fun h => absurd (show (2 : Int) = 1 from h) (by decide)), if_pos (show (Za.mk 2 s (Zk.mk []) []).fOp = 2 from rfl)]
  show (true && (Zyp s && true && true)) = true
  rw [h.1]; rfl
 | .a f x, h => by
  simp only [ST.nms, Bool.and_eq_true] at h
  rw [ST.ty, Za.fms, Zjq, Zjq, Zvu f h.1, Zvu x h.2, Za.fmss, Zld]
  rfl
theorem Zko : ∀ s : ST, s.ty.nod = s.nod
 | .v s => by rw [ST.ty, Za.nod, Za.nods, ST.nod]
 | .k s => by rw [ST.ty, Za.nod, Za.nods, ST.nod]
 | .a f x => by rw [ST.ty, Za.nod, Zhc, Zhc, Za.nods, ST.nod, Zko f, Zko x]; omega
theorem ZrE : ∀ s : ST, s.ty.dep = s.dep
 | .v s => by rw [ST.ty, Za.dep, Za.deps, ST.dep]
 | .k s => by rw [ST.ty, Za.dep, Za.deps, ST.dep]
 | .a f x => by rw [ST.ty, Za.dep, Zk8, Zk8, Za.deps, ST.dep, ZrE f, ZrE x]; omega
theorem Zwp : ∀ s : ST, s.ty.gks = 1
 | .v s => by rw [ST.ty, Za.gks, Za.gkss, Zk.nod, Zk.nods]; rfl
 | .k s => by rw [ST.ty, Za.gks, Za.gkss, Zk.nod, Zk.nods]; rfl
 | .a f x => by rw [ST.ty, Za.gks, Znl, Znl, Za.gkss, Zwp f, Zwp x, Zk.nod, Zk.nods]; rfl
theorem Zwh : ∀ s : ST, s.ty.gkd = 1
 | .v s => by rw [ST.ty, Za.gkd, Za.gkds, Zk.dep, Zk.deps]; rfl
 | .k s => by rw [ST.ty, Za.gkd, Za.gkds, Zk.dep, Zk.deps]; rfl
 | .a f x => by rw [ST.ty, Za.gkd, Znp, Znp, Za.gkds, Zwh f, Zwh x, Zk.dep, Zk.deps]; rfl
theorem Zwa : ∀ s : ST, s.ty.qnt = false
 | .v s => by rw [ST.ty, Za.qnt, Za.qnts]; rfl
 | .k s => by rw [ST.ty, Za.qnt, Za.qnts]; rfl
 | .a f x => by rw [ST.ty, Za.qnt, Zjk, Zjk, Za.qnts, Zwa f, Zwa x]; rfl
theorem ZtY : ∀ s : ST, s.nms = true → s.ty.nmx ≤ 1048576
 | .v s, h => by
  simp only [ST.nms, Bool.and_eq_true, decide_eq_true_eq] at h
  rw [ST.ty, Za.nmx, Za.nmxs]; omega
 | .k s, h => by
  simp only [ST.nms, Bool.and_eq_true, decide_eq_true_eq] at h
  rw [ST.ty, Za.nmx, Za.nmxs]; omega
 | .a f x, h => by
  simp only [ST.nms, Bool.and_eq_true] at h
  have h1 := ZtY f h.1
  have h2 := ZtY x h.2
  have h3 : (ByteArray.mk #[]).size = 0 := rfl
  rw [ST.ty, Za.nmx, Zjl, Zjl, Za.nmxs]; omega
theorem ZrD : ∀ s : ST, s.nms = true → s.ty.vol ≤ 1048578 * s.nod
 | .v s, h => by
  simp only [ST.nms, Bool.and_eq_true, decide_eq_true_eq] at h
  rw [ST.ty, Za.vol, Za.vols, Zk.nod, Zk.nods, ST.nod]; omega
 | .k s, h => by
  simp only [ST.nms, Bool.and_eq_true, decide_eq_true_eq] at h
  rw [ST.ty, Za.vol, Za.vols, Zk.nod, Zk.nods, ST.nod]; omega
 | .a f x, h => by
  simp only [ST.nms, Bool.and_eq_true] at h
  have h1 := ZrD f h.1
  have h2 := ZrD x h.2
  have h3 : (ByteArray.mk #[]).size = 0 := rfl
  rw [ST.ty, Za.vol, Zjp, Zjp, Za.vols, Zk.nod, Zk.nods, ST.nod, h3]; omega
def ST.big (s : ST) : Bool := decide (20000 < s.nod) || decide (100 < s.dep)
theorem ZtD (s : ST) (h : s.nms = true) : Zqk s.ty = if 20000 < s.nod then 3 else if 100 < s.dep then 4 else 0 := by
 unfold Zqk
 rw [if_pos (Zvu s h), Zko, ZrE, Zwp, Zwh]
 by_cases h1 : 20000 < s.nod
 ·rw [if_pos (.inl h1), if_pos h1]
 ·rw [if_neg (show ¬ (20000 < s.nod ∨ 20000 < 1) by omega), if_neg h1]
  by_cases h2 : 100 < s.dep
  ·rw [if_pos (.inl h2), if_pos h2]
  ·rw [if_neg (show ¬ (100 < s.dep ∨ 100 < 1) by omega), if_neg h2]
theorem Zdg {s : ST} : s.big = false ↔ s.nod ≤ 20000 ∧ s.dep ≤ 100 := by
 unfold ST.big
 rw [Bool.or_eq_false_iff, decide_eq_false_iff_not, decide_eq_false_iff_not]; omega
def ST.good (s : ST) : Prop := s.nms = true ∧ s.big = false
theorem ZrX (s : ST) (h : s.good) : Zcj s.ty = some 0 := by
 have hb := Zdg.1 h.2
 have h1 := ZtY s h.1
 have h2 := ZrD s h.1
 rw [ZuG s.ty (by omega) (by omega), ZtD s h.1, if_neg (by omega), if_neg (by omega)]
theorem ZtE (s : ST) (h : s.good) : ZaH s.ty = some 0 := by
 have hb := Zdg.1 h.2
 have h1 := ZtY s h.1
 have h2 := ZrD s h.1
 rw [Zuv s.ty (by omega) (by omega), ZtD s h.1, if_neg (by omega), if_neg (by omega)]
theorem Zy5 {t : Za} (hv : t.vol ≤ 1048576) (h : ZoV t = true) : ∃ s : ST, s.ty = t ∧ s.good := by
 unfold ZoV at h
 simp only [Bool.and_eq_true, beq_iff_eq, Bool.not_eq_true'] at h
 have hf : t.fms = true := by
  cases hf : t.fms with
  | true => rfl
  | false => unfold Zqk at h; rw [hf] at h; simp at h
 obtain ⟨s, rfl, hn⟩ := ZFq t (Nat.le_trans (Ztv t) hv) hf h.2
 refine ⟨s, rfl, hn, ?_⟩
 rw [ZtD s hn] at h
 rw [Zdg]
 by_cases h1 : 20000 < s.nod
 ·rw [if_pos h1] at h; simp at h
 ·by_cases h2 : 100 < s.dep
  ·rw [if_neg h1, if_pos h2] at h; simp at h
  ·omega
theorem Zvg {s : ST} (h : s.good) : ZoV s.ty = true := by
 have hb := Zdg.1 h.2
 unfold ZoV
 rw [ZtD s h.1, if_neg (by omega), if_neg (by omega), Zwa]; rfl

theorem Zsb (a b : ByteArray) : (a == b) = decide (a = b) := by
 cases a with | mk x => cases b with | mk y =>
 have : ((⟨x⟩ : ByteArray) == ⟨y⟩) = (x == y) := rfl
 rw [this, Bool.eq_iff_iff, beq_iff_eq, decide_eq_true_iff]
 exact ⟨fun h => by rw [h], fun h => by injection h⟩
theorem Zk7 (a b : ByteArray) : (a.toList == b.toList) = decide (a = b) := by
 rw [Bool.eq_iff_iff, beq_iff_eq, decide_eq_true_iff, ZaZ, ZaZ]
 exact ⟨fun h => ZfB h, fun h => by rw [h]⟩
abbrev SB := List (ByteArray × ST)
def lk (x : ByteArray) : SB → Option ST
 | [] => none
 | p :: L => if p.1 = x then some p.2 else lk x L
def fi (x : ByteArray) : SB → Option Nat
 | [] => none
 | p :: L => if p.1 = x then some 0 else (fi x L).map (· + 1)
def toB (p : ByteArray × ST) : Ze := Ze.mk p.1 p.2.ty
def atL : Nat → SB → List (ByteArray × Int)
 | _, [] => []
 | k, p :: L => (p.1, ((k : Nat) : Int)) :: atL (k + 1) L
theorem ZsK (x : ByteArray) : ∀ L : SB, (fi x L = none ∧ lk x L = none) ∨ ∃ i p, fi x L = some i ∧ L[i]? = some p ∧ p.1 = x ∧ lk x L = some p.2
 | [] => .inl ⟨rfl, rfl⟩
 | q :: L => by
  by_cases h : q.1 = x
  ·exact .inr ⟨0, q, by rw [fi, if_pos h], rfl, h, by rw [lk, if_pos h]⟩
  ·rcases ZsK x L with ⟨h1, h2⟩ | ⟨i, p, h1, h2, h3, h4⟩
   ·exact .inl ⟨by rw [fi, if_neg h, h1]; rfl, by rw [lk, if_neg h, h2]⟩
   ·exact .inr ⟨i + 1, p, by rw [fi, if_neg h, h1]; rfl, h2, h3, by rw [lk, if_neg h, h4]⟩
theorem Zvh (s : List Ze) (x : ByteArray) : ∀ (L : SB) (k : Nat), Za8 s x k (L.map toB) = some (match fi x L with | some i => ((k + i : Nat) : Int) | none => -1)
 | [], k => by rw [List.map_nil, Za8]; rfl
 | p :: L, k => by
  rw [List.map_cons, Za8, Zk7, fi]
  show (if decide (p.1 = x) = true then _ else _) = _
  by_cases h : p.1 = x
  ·rw [decide_eq_true h, ifT, if_pos h]; rfl
  ·rw [decide_eq_false h, ifF, if_neg h, Zvh s x L (k + 1)]
   cases fi x L with
   | none => rfl
   | some i => simp only [Option.map_some]; congr 2; omega
theorem ZyZ (x : ByteArray) (L : SB) : Zb4 (L.map toB) x = some (match fi x L with | some i => ((i : Nat) : Int) | none => -1) := by
 rw [Zb4, Zvh]
 cases fi x L with
 | none => rfl
 | some i => simp only [Nat.zero_add]
theorem Zu2 (x : ByteArray) : ∀ (L : SB) (k : Nat), ZfN x (atL k L) = (fi x L).map fun i => ((k + i : Nat) : Int)
 | [], k => rfl
 | p :: L, k => by
  rw [atL, ZfN, Zsb, fi]
  by_cases h : p.1 = x
  ·rw [decide_eq_true h.symm, ifT, if_pos h]; rfl
  ·rw [decide_eq_false (fun e => h e.symm), ifF, if_neg h, Zu2 x L (k + 1)]
   cases fi x L with
   | none => rfl
   | some i => simp only [Option.map_some]; congr 2; omega
theorem Zxp (x : ByteArray) (u : ST) : ∀ (L : SB) (k n : Nat), fi x L = none → n = k + L.length → ZhW (atL k L) x ((n : Nat) : Int) = atL k (L ++ [(x, u)])
 | [], k, n, _, h => by subst h; rfl
 | p :: L, k, n, hf, h => by
  rw [fi] at hf
  by_cases hx : p.1 = x
  ·rw [if_pos hx] at hf; cases hf
  ·rw [if_neg hx] at hf
   have hf : fi x L = none := by cases hh : fi x L with | none => rfl | some i => rw [hh] at hf; cases hf
   rw [List.cons_append, atL, atL, ZhW, Zsb, decide_eq_false (fun e => hx e.symm), ifF, Zxp x u L (k + 1) n hf (by rw [h, List.length_cons]; omega)]
theorem ZyE : ∀ (L : SB) (g : ByteArray × ST → ST) (k : Nat), atL k (L.map fun p => (p.1, g p)) = atL k L
 | [], g, k => rfl
 | p :: L, g, k => by rw [List.map_cons, atL, atL, ZyE L g (k + 1)]
theorem Zzt (x : ByteArray) (g : ByteArray × ST → ST) : ∀ L : SB, fi x (L.map fun p => (p.1, g p)) = fi x L
 | [] => rfl
 | p :: L => by rw [List.map_cons, fi, fi, Zzt x g L]
theorem Zux (L : SB) (x : ByteArray) : ZeS (atL 0 L) 0 x = some (match fi x L with | some i => (((i : Nat) : Int), true) | none => (0, false)) := by
 unfold ZeS
 rw [Zu2]
 cases fi x L with
 | none => rfl
 | some i => simp only [Option.map_some, Nat.zero_add]
theorem ZlB {α : Type} (l : List α) (i : Nat) : ixI l ((i : Nat) : Int) = l[i]? := by
 unfold ixI; rw [if_pos (Int.natCast_nonneg i)]; rfl
def ST.isv : ST → Bool
 | .v _ => true
 | _ => false
def ST.res (L : SB) : ST → ST
 | .v s => (lk s L).getD (.v s)
 | t => t
theorem ZE8 : ∀ t : ST, t.ty.fOp = match t with | .v _ => 1 | .k _ => 2 | .a _ _ => 3
 | .v _ => rfl
 | .k _ => rfl
 | .a _ _ => rfl
theorem ZBV (L : SB) (t : ST) : Zbd (L.map toB) t.ty = some (t.res L).ty := by
 unfold Zbd ZbT
 cases t with
 | v s =>
  show (if true = true then _ else _) = _
  rw [ifT]
  show (Zb4 (L.map toB) s >>= _) = _
  rw [ZyZ, Zn]
  rcases ZsK s L with ⟨h1, h2⟩ | ⟨i, p, h1, h2, h3, h4⟩
  ·rw [h1, ST.res, h2]; rfl
  ·rw [h1, ST.res, h4]
   show (if decide (((i : Nat) : Int) ≥ 0) = true then _ else _) = _
   rw [decide_eq_true (Int.natCast_nonneg i), ifT]
   show (ixI _ ((i : Nat) : Int) >>= _) = _
   rw [ZlB, List.getElem?_map, h2]
   rfl
 | k s => rfl
 | a f x => rfl
theorem ZBQ (L : SB) (t : ST) : ZaP ⟨L.map toB, atL 0 L⟩ t.ty = some (t.res L).ty := by
 unfold ZaP Zbq
 cases t with
 | v s =>
  show (if true = true then _ else _) = _
  rw [ifT]
  show (ZeS (atL 0 L) 0 s >>= _) = _
  rw [Zux, Zn]
  rcases ZsK s L with ⟨h1, h2⟩ | ⟨i, p, h1, h2, h3, h4⟩
  ·rw [h1, ST.res, h2]; rfl
  ·rw [h1, ST.res, h4]
   show (ixI (L.map toB) ((i : Nat) : Int) >>= _) = _
   rw [ZlB, List.getElem?_map, h2]
   rfl
 | k s => rfl
 | a f x => rfl
def ST.sub (L : SB) : ST → ST
 | .v s => (lk s L).getD (.v s)
 | .k s => .k s
 | .a f x => .a (f.sub L) (x.sub L)
def ST.occ (v : ByteArray) : ST → Bool
 | .v s => decide (s = v)
 | .k _ => false
 | .a f x => f.occ v || x.occ v
def ST.fr (l : List ByteArray) : ST → List ByteArray
 | .v s => if l.contains s = true then l else l ++ [s]
 | .k _ => l
 | .a f x => x.fr (f.fr l)
theorem Zsq (l : List ByteArray) (x : ByteArray) : l.contains x = true ↔ x ∈ l := by
 induction l with
 | nil => simp
 | cons a l ih => rw [List.contains_cons, Bool.or_eq_true, ih, Zsb, decide_eq_true_iff, List.mem_cons]
theorem Ztf (t : ST) : ∀ l, (t.fr l).length ≤ l.length + t.nod := by
 induction t with
 | v s => intro l; rw [ST.fr, ST.nod]; split <;> simp
 | k s => intro l; rw [ST.fr]; omega
 | a f x ihf ihx => intro l; rw [ST.fr, ST.nod]; have h1 := ihf l; have h2 := ihx (f.fr l); omega
theorem Zmt (x : ByteArray) (t : ST) : ∀ l, x ∈ t.fr l ↔ x ∈ l ∨ t.occ x = true := by
 induction t with
 | v s =>
  intro l
  rw [ST.fr, ST.occ, decide_eq_true_iff]
  by_cases h : l.contains s = true
  ·rw [if_pos h]
   exact ⟨.inl, fun h' => h'.elim id fun e => e ▸ (Zsq l s).1 h⟩
  ·rw [if_neg h, List.mem_append, List.mem_singleton]
   exact ⟨fun h' => h'.imp id Eq.symm, fun h' => h'.imp id Eq.symm⟩
 | k s => intro l; rw [ST.fr, ST.occ]; simp
 | a f x' ihf ihx => intro l; rw [ST.fr, ST.occ, ihx, ihf, Bool.or_eq_true, or_assoc]
theorem ZwD (s : List ByteArray) (v : ByteArray) : ∀ (xs : List ByteArray) (k : Nat), ∃ r, ZaA s v k xs = some r ∧ decide (r ≥ 0) = xs.contains v
 | [], k => ⟨-1, by rw [ZaA], rfl⟩
 | x :: xs, k => by
  obtain ⟨r, h1, h2⟩ := ZwD s v xs (k + 1)
  rw [ZaA, Zk7, List.contains_cons, Zsb]
  by_cases h : v = x
  ·exact ⟨_, by rw [decide_eq_true h, ifT], by rw [decide_eq_true h, Bool.true_or]; exact decide_eq_true (Int.natCast_nonneg k)⟩
  ·exact ⟨r, by rw [decide_eq_false h, ifF, h1], by rw [decide_eq_false h, Bool.false_or, h2]⟩
theorem Zod (s : List ByteArray) (v : ByteArray) : Zas s v = some (s.contains v) := by
 obtain ⟨r, h1, h2⟩ := ZwD s v s 0
 rw [Zas, Zda, h1, Zn, h2]
theorem Zt4 (l b : List ByteArray) (t : Za) (k : Nat) : Zbm l b t k [] = some l := by rw [Zbm]
theorem ZDm (t : ST) : ∀ l : List ByteArray, l.length + t.nod ≤ 1000000000000 → Zc8 l [] t.ty = some (t.fr l) := by
 induction t with
 | v s =>
  intro l hl
  rw [ST.ty, Zc8, Zbr, Zbr]
  show (if true = true then _ else _) = _
  rw [ifT]
  show (Zas [] s >>= _) = _
  rw [Zod, Zn]
  show ((if true = true then (Zas l s >>= fun r => some (!r)) else some false) >>= _) = _
  rw [Zz3, Zod, Zn, Zn, ST.fr]
  show (if (!l.contains s) = true then (Z5 _ >>= fun _ => Zbm (l ++ [s]) [] _ 0 []) else Zbm l [] _ 0 []) = _
  rw [Zt4, Zt4]
  cases l.contains s with
  | true => rfl
  | false =>
   rw [Bool.not_false, ifT, Zde]
   ·rfl
   ·rw [ST.nod] at hl; simp only [List.length_cons, List.length_nil]; omega
 | k s => intro l hl; rw [ST.ty, Zc8, Zbr, Zbr]; exact Zt4 _ _ _ _
 | a f x ihf ihx =>
  intro l hl
  rw [ST.nod] at hl
  have h1 := Ztf f l
  rw [ST.ty, Zc8, Zbr, Zbr]
  show (if (((3 : Int) == 1)) = true then _ else if (((3 : Int) == 4)) = true then _ else Zbm l [] _ 0 [f.ty, x.ty]) = _
  rw [if_neg (by decide), if_neg (by decide), Zbm, ihf l (by omega), Zn, Zbm, ihx _ (by omega), Zn, Zbm, ST.fr]
theorem Zzg (t : ST) (h : t.good) : ZeY t.ty = some (t.fr []) := by
 have hb := Zdg.1 h.2
 rw [ZeY, ZrX t h, Zn, ZDm t [] (by simp; omega)]; rfl
theorem Zwv (s : List ByteArray) (v : ByteArray) : ∀ (xs : List ByteArray) (k : Nat), ZbO s v k xs = some (xs.contains v)
 | [], k => by rw [ZbO]; rfl
 | x :: xs, k => by
  rw [ZbO, Zk7, List.contains_cons, Zsb, Zwv s v xs (k + 1)]
  by_cases h : x = v
  ·rw [decide_eq_true h, decide_eq_true h.symm]; rfl
  ·rw [decide_eq_false h, decide_eq_false (fun e => h e.symm)]; rfl
theorem ZEm (t : ST) : ∀ l : List ByteArray, l.length + t.nod ≤ 1000000000000 → Zak l [] t.ty = some (t.fr l) := by
 induction t with
 | v s =>
  intro l hl
  rw [ST.ty, Zak]
  show ((if true = true then (Zbx [] s >>= fun r => some (!r)) else some false) >>= _) = _
  rw [Zz3, Zbx, Zwv, Zn, Zn]
  show (if true = true then (ZcO l s >>= _) else _) = _
  rw [ifT, ZcO, Zbx, Zwv, Zn, ST.fr]
  cases l.contains s with
  | true => rfl
  | false =>
   rw [ifF, ifF, Zde]
   ·rfl
   ·rw [ST.nod] at hl; simp only [List.length_cons, List.length_nil]; omega
 | k s => intro l hl; rw [ST.ty, Zak, Zao, Zao]; show Z8 l [] 0 _ [] = _; rw [Z8]; rfl
 | a f x ihf ihx =>
  intro l hl
  rw [ST.nod] at hl
  have h1 := Ztf f l
  rw [ST.ty, Zak, Zao, Zao]
  show Z8 l [] 0 _ [f.ty, x.ty] = _
  rw [Z8, ihf l (by omega), Zn, Z8, ihx _ (by omega), Zn, Z8, ST.fr]
theorem ZDT (t : ST) (h : t.good) : Zdr t.ty = some (t.fr []) := by
 have hb := Zdg.1 h.2
 rw [Zdr, ZtE t h, Zn, ZEm t [] (by simp; omega)]; rfl
theorem Zqv (L : SB) (v : ByteArray) (t : ST) : (t.sub L).occ v = true ↔ ∃ x, t.occ x = true ∧ ((lk x L = none ∧ x = v) ∨ ∃ u, lk x L = some u ∧ u.occ v = true) := by
 induction t with
 | v s =>
  rw [ST.sub]
  simp only [ST.occ, decide_eq_true_eq]
  cases hl : lk s L with
  | none =>
   simp only [Option.getD_none, ST.occ, decide_eq_true_eq]
   exact ⟨fun h => ⟨s, rfl, .inl ⟨hl, h⟩⟩, fun ⟨x, hx, h⟩ => by subst hx; rw [hl] at h; simpa using h⟩
  | some u =>
   simp only [Option.getD_some]
   exact ⟨fun h => ⟨s, rfl, .inr ⟨u, hl, h⟩⟩, fun ⟨x, hx, h⟩ => by subst hx; rw [hl] at h; simpa using h⟩
 | k s => simp [ST.sub, ST.occ]
 | a f x ihf ihx =>
  rw [ST.sub, ST.occ, Bool.or_eq_true, ihf, ihx]
  simp only [ST.occ, Bool.or_eq_true]
  exact ⟨fun h => h.elim (fun ⟨y, h1, h2⟩ => ⟨y, .inl h1, h2⟩) (fun ⟨y, h1, h2⟩ => ⟨y, .inr h1, h2⟩), fun ⟨y, h1, h2⟩ => h1.elim (fun h1 => .inl ⟨y, h1, h2⟩) (fun h1 => .inr ⟨y, h1, h2⟩)⟩
def Zgh (L : SB) : Prop := ∀ p ∈ L, p.2.good ∧ Zmm p.1 = true ∧ p.1.size ≤ 1048576
theorem ZqS {x : ByteArray} {u : ST} : ∀ {L : SB}, lk x L = some u → (x, u) ∈ L
 | p :: L, h => by
  rw [lk] at h
  by_cases hx : p.1 = x
  ·rw [if_pos hx] at h; injection h with h; subst hx h; exact List.mem_cons_self ..
  ·rw [if_neg hx] at h; exact List.mem_cons_of_mem _ (ZqS h)
theorem ZxI (L : SB) (hL : Zgh L) (v : ByteArray) (r1 : List ByteArray) : ∀ (xs : List ByteArray) (k : Nat), ZaE v r1 k ⟨L.map toB, atL 0 L⟩ xs = some (xs.any fun x => decide (x = v) || ((lk x L).any fun u => u.occ v))
 | [], k => by rw [ZaE]; rfl
 | x :: xs, k => by
  rw [ZaE, Zk7, List.any_cons]
  by_cases h : x = v
  ·rw [decide_eq_true h]; rfl
  ·rw [decide_eq_false h, ifF, Zux, Zn, Bool.false_or, ZxI L hL v r1 xs (k + 1)]
   rcases ZsK x L with ⟨h1, h2⟩ | ⟨i, p, h1, h2, h3, h4⟩
   ·rw [h1, h2]; rfl
   ·rw [h1, h4]
    show (((ixI (L.map toB) ((i : Nat) : Int)) >>= _) >>= _) = _
    rw [ZlB, List.getElem?_map, h2]
    show ((ZeY p.2.ty >>= _) >>= _) = _
    rw [Zzg p.2 (hL p (List.mem_of_getElem? h2)).1, Zn, Zod, Zn, Zn]
    have : (p.2.fr []).contains v = p.2.occ v := by
     rw [Bool.eq_iff_iff, Zsq, Zmt]; simp
    rw [this, Option.any_some]
    cases p.2.occ v <;> rfl
theorem ZGI (L : SB) (hL : Zgh L) (v : ByteArray) (t : ST) (ht : t.good) (hv : lk v L = none) : ZcC ⟨L.map toB, atL 0 L⟩ v t.ty = some ((t.sub L).occ v) := by
 rw [ZcC, Zzg t ht, Zn, ZxI L hL]
 congr 1
 rw [Bool.eq_iff_iff, List.any_eq_true, Zqv]
 constructor
 ·rintro ⟨x, hx, h⟩
  have hx := ((Zmt x t []).1 hx).resolve_left (by simp)
  rw [Bool.or_eq_true, decide_eq_true_iff] at h
  rcases h with h | h
  ·exact ⟨x, hx, .inl ⟨h ▸ hv, h⟩⟩
  ·cases hl : lk x L with
   | none => rw [hl] at h; cases h
   | some u => rw [hl] at h; exact ⟨x, hx, .inr ⟨u, hl, h⟩⟩
 ·rintro ⟨x, hx, h⟩
  refine ⟨x, (Zmt x t []).2 (.inr hx), ?_⟩
  rw [Bool.or_eq_true, decide_eq_true_iff]
  rcases h with ⟨_, h⟩ | ⟨u, hl, h⟩
  ·exact .inl h
  ·exact .inr (by rw [hl]; exact h)
theorem ZCJ (v : ByteArray) (t : ST) : Z2 [] v t.ty = some (t.occ v) := by
 induction t with
 | v s =>
  rw [ST.ty, Z2]
  show (if true = true then _ else _) = _
  rw [ifT, Zb4, Za8, Zn]
  show some _ = _
  rw [Zk7]; rfl
 | k s => rw [ST.ty, Z2]; show ZJ _ v 0 _ [] = _; rw [ZJ]; rfl
 | a f x ihf ihx =>
  rw [ST.ty, Z2]
  show (ZJ [] v 0 _ [f.ty, x.ty]) = _
  rw [ZJ, ihf, Zn, ST.occ, ZJ, ihx, Zn, ZJ]
  cases f.occ v <;> cases x.occ v <;> rfl
theorem ZFS (L : SB) (v : ByteArray) (t : ST) : Z2 (L.map toB) v t.ty = some ((t.sub L).occ v) := by
 induction t with
 | v s =>
  rw [ST.ty, Z2]
  show (if true = true then _ else _) = _
  rw [ifT]
  show (Zb4 (L.map toB) s >>= _) = _
  rw [ZyZ, Zn, ST.sub]
  rcases ZsK s L with ⟨h1, h2⟩ | ⟨i, p, h1, h2, h3, h4⟩
  ·rw [h1, h2]
   show some _ = _
   rw [Zk7]; rfl
  ·rw [h1, h4]
   show (if decide (((i : Nat) : Int) ≥ 0) = true then _ else _) = _
   rw [decide_eq_true (Int.natCast_nonneg i), ifT]
   show (ixI _ ((i : Nat) : Int) >>= _) = _
   rw [ZlB, List.getElem?_map, h2]
   show (Z2 [] v p.2.ty >>= _) = _
   rw [ZCJ]; rfl
 | k s => rw [ST.ty, Z2]; show ZJ _ v 0 _ [] = _; rw [ZJ]; rfl
 | a f x ihf ihx =>
  rw [ST.ty, Z2]
  show (ZJ _ v 0 _ [f.ty, x.ty]) = _
  rw [ZJ, ihf, Zn, ST.sub, ST.occ, ZJ, ihx, Zn, ZJ]
  cases (f.sub L).occ v <;> cases (x.sub L).occ v <;> rfl

def zty : Za := Za.mk 0 (ByteArray.mk #[]) (Zk.mk []) []
def Zrl (c : List (ByteArray × Za)) (L : SB) : Prop := ∀ x, ZfN x c = (lk x L).map ST.ty
theorem Zif {c : List (ByteArray × Za)} {L : SB} (h : Zrl c L) (x : ByteArray) : ZeS c zty x = some (match lk x L with | some u => (u.ty, true) | none => (zty, false)) := by
 unfold ZeS
 rw [h x]
 cases lk x L <;> rfl
theorem Zra {β : Type} (x k : ByteArray) (v : β) : ∀ c : List (ByteArray × β), ZfN x (ZhW c k v) = if x = k then some v else ZfN x c
 | [] => by
  rw [ZhW, ZfN, ZfN, Zsb]
  by_cases h : x = k
  ·rw [decide_eq_true h, ifT, if_pos h]
  ·rw [decide_eq_false h, ifF, if_neg h]; rfl
 | p :: c => by
  rw [ZhW, Zsb]
  by_cases hk : k = p.1
  ·rw [decide_eq_true hk, ifT, ZfN, ZfN, Zsb, Zsb]
   by_cases h : x = k
   ·rw [decide_eq_true h, ifT, if_pos h]
   ·rw [decide_eq_false h, ifF, if_neg h, decide_eq_false (fun e => h (e.trans hk.symm)), ifF]
  ·rw [decide_eq_false hk, ifF, ZfN, ZfN, Zsb, Zra x k v c]
   by_cases h : x = p.1
   ·rw [decide_eq_true h, ifT, ifT, if_neg (fun e => hk (e.symm.trans h))]
   ·rw [decide_eq_false h, ifF, ifF]
theorem Zv4 (x : ByteArray) (M : SB) : ∀ L : SB, lk x (L ++ M) = match lk x L with | some u => some u | none => lk x M
 | [] => rfl
 | p :: L => by
  rw [List.cons_append, lk, lk]
  by_cases h : p.1 = x
  ·rw [if_pos h, if_pos h]
  ·rw [if_neg h, if_neg h, Zv4 x M L]
theorem ZtQ : ZaT (Zk.mk []) = some (Zk.mk []) := by rw [ZaT]; show Zbi _ 0 [] [] = _; rw [Zbi]
theorem ZzP (t : ST) : Zcl t.ty = some t.ty := by
 induction t with
 | v s => rw [ST.ty, Zcl]; show (ZaT (Zk.mk []) >>= _) = _; rw [ZtQ, Zn]; show ZaJ _ 0 _ [] [] = _; rw [ZaJ]; rfl
 | k s => rw [ST.ty, Zcl]; show (ZaT (Zk.mk []) >>= _) = _; rw [ZtQ, Zn]; show ZaJ _ 0 _ [] [] = _; rw [ZaJ]; rfl
 | a f x ihf ihx =>
  rw [ST.ty, Zcl]
  show (ZaT (Zk.mk []) >>= _) = _
  rw [ZtQ, Zn]
  show ZaJ _ 0 _ [] [f.ty, x.ty] = _
  rw [ZaJ, ihf, Zn, Zde _ (by simp only [List.length_append, List.length_cons, List.length_nil]; decide), ZaJ, ihx, Zn, Zde _ (by simp only [List.length_append, List.length_cons, List.length_nil]; decide), ZaJ]
  rfl
theorem ZyB (t : ST) : Zcm t.ty = some t.ty := by
 induction t with
 | v s => rw [ST.ty, Zcm]; show ZaK _ 0 [] [] = _; rw [ZaK]; rfl
 | k s => rw [ST.ty, Zcm]; show ZaK _ 0 [] [] = _; rw [ZaK]; rfl
 | a f x ihf ihx =>
  rw [ST.ty, Zcm]
  show ZaK _ 0 [] [f.ty, x.ty] = _
  rw [ZaK, ihf, Zn, Zde _ (by simp only [List.length_append, List.length_cons, List.length_nil]; decide), ZaK, ihx, Zn, Zde _ (by simp only [List.length_append, List.length_cons, List.length_nil]; decide), ZaK]
  rfl
theorem Znn {L : SB} (hL : Zgh L) {x : ByteArray} {u : ST} (h : lk x L = some u) : u.good := (hL _ (ZqS h)).1
theorem ZBD (t : ST) : 1 ≤ t.nod := by cases t <;> simp [ST.nod]; omega
theorem ZlR (t : ST) : t.dep ≤ t.nod := by
 induction t with
 | v s => exact Nat.le_refl _
 | k s => exact Nat.le_refl _
 | a f x ihf ihx => rw [ST.dep, ST.nod]; omega
theorem ZxF {L : SB} (hL : Zgh L) (t : ST) : (t.sub L).nod ≤ 20000 * t.nod := by
 induction t with
 | v s =>
  rw [ST.sub]
  cases h : lk s L with
  | none => simp [ST.nod]
  | some u => have := Zdg.1 (Znn hL h).2; simp only [Option.getD_some, ST.nod]; omega
 | k s => rw [ST.sub, ST.nod]; omega
 | a f x ihf ihx => rw [ST.sub, ST.nod, ST.nod]; omega
theorem ZoW {L : SB} (hL : Zgh L) (t : ST) (ht : t.nms = true) : (t.sub L).nms = true := by
 induction t with
 | v s =>
  rw [ST.sub]
  cases h : lk s L with
  | none => exact ht
  | some u => exact (Znn hL h).1
 | k s => exact ht
 | a f x ihf ihx => rw [ST.nms, Bool.and_eq_true] at ht; rw [ST.sub, ST.nms, ihf ht.1, ihx ht.2]; rfl
theorem ZAS {c : List (ByteArray × Za)} {L : SB} (hc : Zrl c L) (hL : Zgh L) (t : ST) : t.nod ≤ 20000 → ZbV c t.ty = some ((((t.sub L).nod : Nat) : Int), (((t.sub L).dep : Nat) : Int)) := by
 induction t with
 | v s =>
  intro hb
  rw [ST.ty, ZbV]
  show (ZeS c zty s >>= _) = _
  rw [Zif hc, Zn, ST.sub]
  cases h : lk s L with
  | some u =>
   have hg := Zdg.1 (Znn hL h).2
   show (ZcF u.ty >>= _) = _
   rw [ZzE _ (by rw [Zko]; have : BIG = 1000000000000 := rfl; omega), Zn, ZxC _ (by rw [Zko]; have : BIG = 1000000000000 := rfl; omega), Zn, Zko, ZrE]
   rfl
  | none =>
   show (ZeS c zty s >>= _) = _
   rw [Zif hc, Zn, h]
   show Z4 0 0 _ 0 c [] = _
   rw [Z4]; rfl
 | k s =>
  intro hb
  rw [ST.ty, ZbV]
  show (ZeS c zty s >>= _) = _
  rw [Zif hc, Zn, ST.sub]
  have hf : ∀ r : Za × Bool, (if (r.2 && ((2 : Int) == 1)) = true then (ZcF r.1 >>= fun r12 => Zcg r.1 >>= fun r13 => some (r12, r13)) else ZeS c zty s >>= fun r16 => if (r16.2 && ((2 : Int) == 4)) = true then none else Z4 0 0 (Za.mk 2 s (Zk.mk []) []) 0 c []) = some (((1 : Nat) : Int), ((1 : Nat) : Int)) := by
   intro r
   rw [show (r.2 && ((2 : Int) == 1)) = false from by rw [show ((2 : Int) == 1) = false from rfl, Bool.and_false], ifF, Zif hc, Zn]
   have h2 : ∀ q : Za × Bool, (if (q.2 && ((2 : Int) == 4)) = true then none else Z4 0 0 (Za.mk 2 s (Zk.mk []) []) 0 c []) = Z4 0 0 (Za.mk 2 s (Zk.mk []) []) 0 c [] := fun q => by
    rw [show (q.2 && ((2 : Int) == 4)) = false from by rw [show ((2 : Int) == 4) = false from rfl, Bool.and_false], ifF]
   rw [h2, Z4]; rfl
  exact hf _
 | a f x ihf ihx =>
  intro hb
  rw [ST.nod] at hb
  have e := ZxF hL (.a f x)
  have d1 := ZlR (f.sub L)
  have d2 := ZlR (x.sub L)
  rw [ST.sub, ST.nod, ST.nod] at e
  rw [ST.ty, ZbV]
  show (ZeS c zty (ByteArray.mk #[]) >>= _) = _
  rw [Zif hc, Zn, ST.sub, ST.nod, ST.dep]
  have hf : ∀ r : Za × Bool, (if (r.2 && ((3 : Int) == 1)) = true then (ZcF r.1 >>= fun r12 => Zcg r.1 >>= fun r13 => some (r12, r13)) else ZeS c zty (ByteArray.mk #[]) >>= fun r16 => if (r16.2 && ((3 : Int) == 4)) = true then none else Z4 0 0 (Za.mk 3 (ByteArray.mk #[]) (Zk.mk []) [f.ty, x.ty]) 0 c [f.ty, x.ty]) = some (((1 + (f.sub L).nod + (x.sub L).nod : Nat) : Int), ((max (f.sub L).dep (x.sub L).dep + 1 : Nat) : Int)) := by
   intro r
   rw [show (r.2 && ((3 : Int) == 1)) = false from by rw [show ((3 : Int) == 1) = false from rfl, Bool.and_false], ifF, Zif hc, Zn]
   have h2 : ∀ q : Za × Bool, (if (q.2 && ((3 : Int) == 4)) = true then none else Z4 0 0 (Za.mk 3 (ByteArray.mk #[]) (Zk.mk []) [f.ty, x.ty]) 0 c [f.ty, x.ty]) = Z4 0 0 (Za.mk 3 (ByteArray.mk #[]) (Zk.mk []) [f.ty, x.ty]) 0 c [f.ty, x.ty] := fun q => by
    rw [show (q.2 && ((3 : Int) == 4)) = false from by rw [show ((3 : Int) == 4) = false from rfl, Bool.and_false], ifF]
   rw [h2, Z4, ihf (by omega), Zn, Z4, ihx (by omega), Zn, Z4]
   have z0 := ZgV (f.sub L).dep 0
   rw [Int.natCast_zero, Nat.max_eq_right (Nat.zero_le _)] at z0
   show some (IntKind.i64.wrap (IntKind.i64.wrap (IntKind.i64.wrap (0 + (((f.sub L).nod : Nat) : Int)) + (((x.sub L).nod : Nat) : Int)) + 1), IntKind.i64.wrap ((if (((x.sub L).dep : Nat) : Int) > (if (((f.sub L).dep : Nat) : Int) > 0 then (((f.sub L).dep : Nat) : Int) else 0) then (((x.sub L).dep : Nat) : Int) else (if (((f.sub L).dep : Nat) : Int) > 0 then (((f.sub L).dep : Nat) : Int) else 0)) + 1)) = _
   have w1 : IntKind.i64.wrap (((f.sub L).nod : Nat) : Int) = (((f.sub L).nod : Nat) : Int) := w64 (by omega) (by omega)
   have w2 : IntKind.i64.wrap ((((f.sub L).nod : Nat) : Int) + (((x.sub L).nod : Nat) : Int)) = (((f.sub L).nod : Nat) : Int) + (((x.sub L).nod : Nat) : Int) := w64 (by omega) (by omega)
   rw [z0, ZgV, Int.zero_add, w1, w2, w64 (by omega) (by omega), w64 (by omega) (by omega)]
   refine congrArg some (Prod.ext ?_ ?_)
   ·show _ = ((1 + (f.sub L).nod + (x.sub L).nod : Nat) : Int); omega
   ·show _ = ((max (f.sub L).dep (x.sub L).dep + 1 : Nat) : Int); omega
  exact hf _
theorem ZB1 {c : List (ByteArray × Za)} {L : SB} (hc : Zrl c L) (t : ST) : ZcT c t.ty = some (t.sub L).ty := by
 induction t with
 | v s =>
  rw [ST.ty, ZcT]
  show (ZeS c zty s >>= _) = _
  rw [Zif hc, Zn, ST.sub]
  cases h : lk s L with
  | some u => show (Zcl u.ty >>= _) = _; rw [ZzP]; rfl
  | none => rfl
 | k s => rw [ST.ty, ZcT]; show ZbF _ 0 [] c [] = _; rw [ZbF]; rfl
 | a f x ihf ihx =>
  rw [ST.ty, ZcT]
  show ZbF _ 0 [] c [f.ty, x.ty] = _
  rw [ZbF, ihf, Zn, Zde _ (by simp only [List.length_append, List.length_cons, List.length_nil]; decide), ZbF, ihx, Zn, Zde _ (by simp only [List.length_append, List.length_cons, List.length_nil]; decide), ZbF]
  rfl
def Zin (L : SB) (t : ST) : Za := if (t.sub L).big = true then zty else (t.sub L).ty
theorem ZDO (a b : Nat) : (decide (((a : Nat) : Int) > 20000) || decide (((b : Nat) : Int) > 100)) = (decide (20000 < a) || decide (100 < b)) := by
 congr 1
 ·exact decide_eq_decide.2 (by omega)
 ·exact decide_eq_decide.2 (by omega)
theorem Zu7 {c : List (ByteArray × Za)} {M : SB} (hc : Zrl c M) (p : ByteArray × ST) : Zrl (match ZfN p.1 c with | some _ => c | none => ZhW c p.1 p.2.ty) (M ++ [p]) := by
 intro x
 rw [Zv4]
 have e := hc p.1
 cases h : lk p.1 M with
 | some u =>
  rw [h] at e
  rw [e]
  show ZfN x c = _
  rw [hc x]
  cases hx : lk x M with
  | some w => rfl
  | none =>
   show none = (lk x [p]).map ST.ty
   rw [lk, if_neg (fun e => by rw [e] at h; rw [h] at hx; cases hx)]; rfl
 | none =>
  rw [h] at e
  rw [e]
  show ZfN x (ZhW c p.1 p.2.ty) = _
  rw [Zra]
  by_cases hx : x = p.1
  ·rw [if_pos hx, hx, h]; show _ = (lk p.1 [p]).map ST.ty; rw [lk, if_pos rfl]; rfl
  ·rw [if_neg hx, hc x]
   cases lk x M with
   | some w => rfl
   | none => show none = (lk x [p]).map ST.ty; rw [lk, if_neg (fun e => hx e.symm)]; rfl
theorem ZxB (s : List Ze) (t : ST) (ht : t.good) : ∀ (L M : SB) (c : List (ByteArray × Za)) (k : Nat), Zrl c M → Zgh (M ++ L) → Zct s k t.ty c (L.map toB) = some (Zin (M ++ L) t)
 | [], M, c, k, hc, hg => by
  have hb := Zdg.1 ht.2
  rw [List.append_nil] at hg ⊢
  rw [List.map_nil, Zct, ZAS hc hg t (by omega), Zn, ZDO]
  show (if (t.sub M).big = true then _ else _) = _
  unfold Zin
  cases (t.sub M).big with
  | true => rfl
  | false => rw [ifF, ifF, ZB1 hc, Zn]
 | p :: L, M, c, k, hc, hg => by
  have hp := hg p (by simp)
  have ih := ZxB s t ht L (M ++ [p]) (match ZfN p.1 c with | some _ => c | none => ZhW c p.1 p.2.ty) (k + 1) (Zu7 hc p) (by simpa using hg)
  rw [List.append_assoc, List.singleton_append] at ih
  rw [List.map_cons, Zct]
  show (Za9 p.1 >>= _) = _
  rw [Zzd _ (by omega), Zn, hp.2.1]
  show ((Zcj p.2.ty >>= _) >>= _) = _
  rw [ZrX _ hp.1, Zn, Zn]
  show (ZeS c zty p.1 >>= _) = _
  rw [ZeS]
  cases h : ZfN p.1 c with
  | some w => rw [h] at ih; exact ih
  | none => rw [h] at ih; exact ih
theorem ZGf (L : SB) (hL : Zgh L) (t : ST) (ht : t.good) : ZeO (L.map toB) t.ty = some (Zin L t) := by
 rw [ZeO, ZrX t ht, Zn]
 exact ZxB _ t ht L [] [] 0 (fun x => rfl) hL
theorem Zus (s : List Ze) (t : ST) (ht : t.good) : ∀ (L M : SB) (c : List (ByteArray × Za)) (k : Nat), Zrl c M → Zgh (M ++ L) → Zb5 s k t.ty c (L.map toB) = some (Zin (M ++ L) t)
 | [], M, c, k, hc, hg => by
  have hb := Zdg.1 ht.2
  rw [List.append_nil] at hg ⊢
  rw [List.map_nil, Zb5, ZAS hc hg t (by omega), Zn, ZDO]
  show (if (t.sub M).big = true then _ else _) = _
  unfold Zin
  cases (t.sub M).big with
  | true => rfl
  | false => rw [ifF, ifF, ZB1 hc, Zn]
 | p :: L, M, c, k, hc, hg => by
  have hp := hg p (by simp)
  have ih := Zus s t ht L (M ++ [p]) (match ZfN p.1 c with | some _ => c | none => ZhW c p.1 p.2.ty) (k + 1) (Zu7 hc p) (by simpa using hg)
  rw [List.append_assoc, List.singleton_append] at ih
  rw [List.map_cons, Zb5]
  show (Za9 p.1 >>= _) = _
  rw [Zzd _ (by omega), Zn, hp.2.1]
  show ((Zcj p.2.ty >>= _) >>= _) = _
  rw [ZrX _ hp.1, Zn, Zn]
  show (ZeS c zty p.1 >>= _) = _
  rw [ZeS]
  cases h : ZfN p.1 c with
  | some w => rw [h] at ih; exact ih
  | none => rw [h] at ih; exact ih
theorem ZDK (L : SB) (hL : Zgh L) (t : ST) (ht : t.good) : Zeg (L.map toB) t.ty = some (Zin L t) := by
 rw [Zeg, ZrX t ht, Zn]
 exact Zus _ t ht L [] [] 0 (fun x => rfl) hL
theorem Zu8 (s : List Ze) (x : ByteArray) : ∀ (L : SB) (k : Nat), ZbA s x k (L.map toB) = some (match lk x L with | some u => (u.ty, true) | none => (zty, false))
 | [], k => by rw [List.map_nil, ZbA]; rfl
 | p :: L, k => by
  rw [List.map_cons, ZbA, Zk7, lk]
  show (if decide (p.1 = x) = true then _ else _) = _
  by_cases h : p.1 = x
  ·rw [decide_eq_true h, ifT, if_pos h]; rfl
  ·rw [decide_eq_false h, ifF, if_neg h, Zu8 s x L (k + 1)]
theorem ZyF (L : SB) (x : ByteArray) : Zb6 (L.map toB) x = some (match lk x L with | some u => (u.ty, true) | none => (zty, false)) := by rw [Zb6, Zu8]
theorem ZC9 (L : SB) (hL : Zgh L) (t : ST) : t.nod ≤ 20000 → ZaF (L.map toB) [] t.ty = some ((((t.sub L).nod : Nat) : Int), (((t.sub L).dep : Nat) : Int)) := by
 induction t with
 | v s =>
  intro hb
  rw [ST.ty, ZaF]
  show ((if true = true then (Zbx [] s >>= fun r => some (!r)) else some false) >>= _) = _
  rw [Zz3, Zbx, Zwv, Zn, Zn]
  show (Zb6 (L.map toB) s >>= _) = _
  rw [ZyF, Zn, ST.sub]
  cases h : lk s L with
  | some u =>
   have hg := Zdg.1 (Znn hL h).2
   show (ZaL u.ty >>= _) = _
   rw [Zwj _ (by rw [Zko]; have : BIG = 1000000000000 := rfl; omega), Zn, Zs9 _ (by rw [Zko]; have : BIG = 1000000000000 := rfl; omega), Zn, Zko, ZrE]
   rfl
  | none =>
   show Z9 _ [] _ = _
   rw [Z9]
   show Z7 _ [] _ = _
   rw [Z7]
   show ZW _ [] 1 0 0 _ [] = _
   rw [ZW]; rfl
 | k s =>
  intro hb
  rw [ST.ty, ZaF]
  show Z9 _ [] _ = _
  rw [Z9]
  show Z7 _ [] _ = _
  rw [Z7]
  show ZW _ [] 1 0 0 _ [] = _
  rw [ZW]; rfl
 | a f x ihf ihx =>
  intro hb
  rw [ST.nod] at hb
  have e := ZxF hL (.a f x)
  have d1 := ZlR (f.sub L)
  have d2 := ZlR (x.sub L)
  rw [ST.sub, ST.nod, ST.nod] at e
  rw [ST.ty, ZaF, ST.sub, ST.nod, ST.dep]
  show Z9 _ [] _ = _
  rw [Z9]
  show Z7 _ [] _ = _
  rw [Z7]
  show ZW _ [] 1 0 0 _ [f.ty, x.ty] = _
  rw [ZW, ihf (by omega), Zn, ZW, ihx (by omega), Zn, ZW]
  have z0 := ZgV (f.sub L).dep 0
  rw [Int.natCast_zero, Nat.max_eq_right (Nat.zero_le _)] at z0
  show some (IntKind.i64.wrap (IntKind.i64.wrap (1 + (((f.sub L).nod : Nat) : Int)) + (((x.sub L).nod : Nat) : Int)), IntKind.i64.wrap ((if (((x.sub L).dep : Nat) : Int) > (if (((f.sub L).dep : Nat) : Int) > 0 then (((f.sub L).dep : Nat) : Int) else 0) then (((x.sub L).dep : Nat) : Int) else (if (((f.sub L).dep : Nat) : Int) > 0 then (((f.sub L).dep : Nat) : Int) else 0)) + 1)) = _
  have w1 : IntKind.i64.wrap (1 + (((f.sub L).nod : Nat) : Int)) = 1 + (((f.sub L).nod : Nat) : Int) := w64 (by omega) (by omega)
  rw [z0, ZgV, w1, w64 (by omega) (by omega), w64 (by omega) (by omega)]
  refine congrArg some (Prod.ext ?_ ?_)
  ·show _ = ((1 + (f.sub L).nod + (x.sub L).nod : Nat) : Int); omega
  ·show _ = ((max (f.sub L).dep (x.sub L).dep + 1 : Nat) : Int); omega
theorem ZFE (L : SB) (t : ST) : Zap (L.map toB) t.ty = some (t.sub L).ty := by
 induction t with
 | v s =>
  rw [ST.ty, Zap]
  show (Zb6 (L.map toB) s >>= _) = _
  rw [ZyF, Zn, ST.sub]
  cases h : lk s L <;> rfl
 | k s => rw [ST.ty, Zap]; rfl
 | a f x ihf ihx =>
  rw [ST.ty, Zap]
  show ((some x.ty) >>= fun Zx3 => (some f.ty) >>= fun ZxW => Zap (L.map toB) ZxW >>= fun ZyU => Zap (L.map toB) Zx3 >>= fun ZAX => Zeu ZyU ZAX >>= fun ZA3 => some ZA3) = _
  rw [Zn, Zn, ihf, Zn, ihx, Zn]; rfl
theorem Zxz (M : SB) (t : ST) (ht : t.good) (hM : Zgh M) : ∀ (L : SB) (k : Nat), Zgh L → Zbe (M.map toB) k t.ty (L.map toB) = some (Zin M t)
 | [], k, _ => by
  have hb := Zdg.1 ht.2
  rw [List.map_nil, Zbe, ZC9 M hM t (by omega), Zn, ZDO]
  show (if (t.sub M).big = true then _ else _) = _
  unfold Zin
  cases (t.sub M).big with
  | true => rfl
  | false => rw [ifF, ifF, ZFE, Zn]
 | p :: L, k, hg => by
  have hp := hg p (by simp)
  rw [List.map_cons, Zbe]
  show (ZbB p.1 >>= _) = _
  rw [ZBR _ (by omega), Zn, hp.2.1]
  show ((ZaH p.2.ty >>= _) >>= _) = _
  rw [ZtE _ hp.1, Zn, Zn]
  exact Zxz M t ht hM L (k + 1) fun q hq => hg q (by simp [hq])
theorem Zw8 (L : SB) (hL : Zgh L) (t : ST) (ht : t.good) : Za2 (L.map toB) t.ty = some (Zin L t) := by
 rw [Za2, ZtE t ht, Zn]
 exact Zxz L t ht hL L 0 hL
theorem Zo6 (L : SB) (t : ST) : ((Zin L t).fOp == 0) = (t.sub L).big := by
 unfold Zin
 cases (t.sub L).big with
 | true => rfl
 | false => rw [ifF, ZE8]; cases t.sub L <;> rfl

def bg (v : ByteArray) (u : ST) (p : ByteArray × ST) : ByteArray × ST := (p.1, p.2.sub [(v, u)])
def Znb (v : ByteArray) (u : ST) (p : ByteArray × ST) : Bool := (p.2.sub [(v, u)]).big
theorem ZIl {A : SB} {x : Nat} (hx : A.length = x) (p q : ByteArray × ST) (B : SB) : (((A ++ p :: B).map toB).set x (toB q)) = ((A ++ [q]) ++ B).map toB := by
 subst hx
 rw [List.map_append, List.map_append, List.map_append, List.map_cons, List.set_append_right _ _ (by simp), List.length_map, Nat.sub_self, List.set_cons_zero]
 simp
theorem ZGE {A : SB} {x : Nat} (hx : A.length = x) (p : ByteArray × ST) (B : SB) : ((A ++ p :: B).map toB)[x]? = some (toB p) := by
 subst hx; simp
theorem Zue (v : ByteArray) (u : ST) (hu : Zgh [(v, u)]) (s : Zu) : ∀ (B A : SB) (x : Nat), A.length = x → s.flist.length = x + B.length → Zgh B → x + B.length ≤ 1000000000 →
  (B.any (Znb v u) = true → ∃ s', Zac v u.ty s x ((A ++ B).map toB) = some (3, s')) ∧
  (B.any (Znb v u) = false → Zac v u.ty s x ((A ++ B).map toB) = some (0, ⟨(A ++ B.map (bg v u) ++ [(v, u)]).map toB, ZhW s.fat v (((A ++ B).length : Nat) : Int)⟩))
 | [], A, x, hx, hs, _, hl => by
  refine ⟨fun h => (by cases h), fun _ => ?_⟩
  simp only [List.length_nil, Nat.add_zero] at hs hl
  rw [Zac, hs, decide_eq_false (by omega), ifF, Zde]
  ·simp [toB]
  ·simp; omega
 | p :: B, A, x, hx, hs, hB, hl => by
  rw [List.length_cons] at hs hl
  have hp := hB p (by simp)
  have ih := Zue v u hu s B (A ++ [bg v u p]) (x + 1) (by simp [hx]) (by omega) (fun q hq => hB q (by simp [hq])) (by omega)
  have e : Zac v u.ty s x ((A ++ p :: B).map toB) = if Znb v u p = true then some (3, ⟨(A ++ p :: B).map toB, s.fat⟩) else Zac v u.ty s (x + 1) (((A ++ [bg v u p]) ++ B).map toB) := by
   rw [Zac, hs, decide_eq_true (by omega), ifT, ZGE hx, Zn]
   show (Zeg ([(v, u)].map toB) p.2.ty >>= _) = _
   rw [ZDK [(v, u)] hu p.2 hp.1, Zn, Zo6, Zn]
   show (if Znb v u p = true then _ else _) = _
   cases hb : Znb v u p with
   | true => rfl
   | false =>
    rw [ifF, ifF]
    have hr : Zin [(v, u)] p.2 = (p.2.sub [(v, u)]).ty := by unfold Zin; rw [show (p.2.sub [(v, u)]).big = false from hb, ifF]
    rw [hr]
    show Zac v u.ty s (x + 1) (((A ++ p :: B).map toB).set x (toB (bg v u p))) = _
    rw [ZIl hx]
  rw [e, List.any_cons]
  cases hb : Znb v u p with
  | true => exact ⟨fun _ => ⟨_, rfl⟩, fun h => by cases h⟩
  | false =>
   rw [ifF, Bool.false_or]
   refine ⟨ih.1, fun h => ?_⟩
   rw [ih.2 h]
   simp [bg]
theorem Zuh (s : List Ze) (v : ByteArray) (u : ST) (hu : Zgh [(v, u)]) : ∀ (B A : SB) (x : Nat), Zgh B → A.length + B.length ≤ 1000000000 →
  ZbC s v u.ty (A.map toB) x (B.map toB) = some (if B.any (Znb v u) = true then ([], 3) else ((A ++ B.map (bg v u) ++ [(v, u)]).map toB, 0))
 | [], A, x, _, hl => by
  rw [List.map_nil, ZbC, Zde]
  ·simp [toB]
  ·simp at hl ⊢; omega
 | p :: B, A, x, hB, hl => by
  rw [List.length_cons] at hl
  have hp := hB p (by simp)
  have ih := Zuh s v u hu B (A ++ [bg v u p]) (x + 1) (fun q hq => hB q (by simp [hq])) (by simp; omega)
  rw [List.map_cons, ZbC]
  show (Za2 ([(v, u)].map toB) p.2.ty >>= _) = _
  rw [Zw8 [(v, u)] hu p.2 hp.1, Zn, Zo6, List.any_cons]
  show (if Znb v u p = true then _ else _) = _
  cases hb : Znb v u p with
  | true => rfl
  | false =>
   have hr : Zin [(v, u)] p.2 = (p.2.sub [(v, u)]).ty := by unfold Zin; rw [show (p.2.sub [(v, u)]).big = false from hb, ifF]
   rw [ifF, hr, Zde _ (by simp; omega), Bool.false_or]
   have e : A.map toB ++ [Ze.mk (toB p).fName (p.2.sub [(v, u)]).ty] = (A ++ [bg v u p]).map toB := by simp [toB, bg]
   rw [e, ih]
   simp
def Zf8 (L : SB) (v : ByteArray) (t : ST) : Int × SB :=
 if (t.sub L).occ v = true then (23, [])
 else if (t.sub L).big = true then (3, [])
 else if L.any (Znb v (t.sub L)) = true then (3, [])
 else (0, L.map (bg v (t.sub L)) ++ [(v, t.sub L)])
theorem ZBl {x : ByteArray} {L : SB} (h : lk x L = none) : fi x L = none := by
 rcases ZsK x L with ⟨h1, _⟩ | ⟨i, p, _, _, _, h4⟩
 ·exact h1
 ·rw [h] at h4; cases h4
theorem ZDe (L : SB) (hL : Zgh L) (v : ByteArray) (hv : Zmm v = true ∧ v.size ≤ 1048576) (t : ST) (ht : t.good) (hl : L.length ≤ 1000000000) :
  Za6 (L.map toB) v t.ty = some ((Zf8 L v t).2.map toB, (Zf8 L v t).1) := by
 rw [Za6, ZFS, Zn]
 unfold Zf8
 cases ho : (t.sub L).occ v with
 | true => rfl
 | false =>
  rw [ifF, ifF, Zw8 L hL t ht, Zn, Zo6]
  cases hb : (t.sub L).big with
  | true => rfl
  | false =>
   have hr : Zin L t = (t.sub L).ty := by unfold Zin; rw [hb, ifF]
   have hu : Zgh [(v, t.sub L)] := fun p hp => by rw [List.mem_singleton] at hp; subst hp; exact ⟨⟨ZoW hL t ht.1, hb⟩, hv⟩
   rw [ifF, ifF, hr]
   have := Zuh (L.map toB) v (t.sub L) hu L [] 0 hL (by simpa using hl)
   rw [List.map_nil] at this
   rw [this, List.nil_append]
   cases L.any (Znb v (t.sub L)) <;> rfl
theorem ZvQ (L : SB) (hL : Zgh L) (v : ByteArray) (hv : Zmm v = true ∧ v.size ≤ 1048576) (hf : lk v L = none) (t : ST) (ht : t.good) (hl : L.length ≤ 1000000000) :
  ∃ s', ZaC ⟨L.map toB, atL 0 L⟩ v t.ty = some ((Zf8 L v t).1, s') ∧ ((Zf8 L v t).1 = 0 → s' = ⟨(Zf8 L v t).2.map toB, atL 0 (Zf8 L v t).2⟩) := by
 rw [ZaC, ZGI L hL v t ht hf, Zn]
 unfold Zf8
 cases ho : (t.sub L).occ v with
 | true => exact ⟨_, rfl, fun h => by cases h⟩
 | false =>
  rw [ifF, ifF]
  show ∃ s', (ZeO (L.map toB) t.ty >>= _) = _ ∧ _
  rw [ZGf L hL t ht, Zn, Zo6]
  cases hb : (t.sub L).big with
  | true => exact ⟨_, rfl, fun h => by cases h⟩
  | false =>
   have hr : Zin L t = (t.sub L).ty := by unfold Zin; rw [hb, ifF]
   have hu : Zgh [(v, t.sub L)] := fun p hp => by rw [List.mem_singleton] at hp; subst hp; exact ⟨⟨ZoW hL t ht.1, hb⟩, hv⟩
   rw [ifF, ifF, hr]
   obtain ⟨h1, h2⟩ := Zue v (t.sub L) hu ⟨L.map toB, atL 0 L⟩ L [] 0 rfl (by simp) hL (by simpa using hl)
   rw [List.nil_append] at h1 h2
   cases hg : L.any (Znb v (t.sub L)) with
   | true =>
    obtain ⟨s', h1⟩ := h1 hg
    exact ⟨s', h1, fun h => by cases h⟩
   | false =>
    refine ⟨_, h2 hg, fun _ => ?_⟩
    rw [List.nil_append, Zxp v (t.sub L) L 0 _ (ZBl hf) (by omega)]
    show _ = Zu.mk ((L.map (bg v (t.sub L)) ++ [(v, t.sub L)]).map toB) (atL 0 (L.map (bg v (t.sub L)) ++ [(v, t.sub L)]))
    congr 1
    have : ∀ (L M : SB) (g : ByteArray × ST → ST) (k : Nat), atL k (L.map (fun p => (p.1, g p)) ++ M) = atL k (L ++ M) := by
     intro L M g
     induction L with
     | nil => intro k; rfl
     | cons p L ih => intro k; rw [List.map_cons, List.cons_append, List.cons_append, atL, atL, ih]
    exact (this L _ (fun p => p.2.sub [(v, t.sub L)]) 0).symm

def ZrN (L : SB) : Prop := ∀ p ∈ L, ∀ y, p.2.occ y = true → lk y L = none
theorem ZwR {L : SB} (h : ZrN L) {x : ByteArray} {u : ST} (hx : lk x L = some u) {y : ByteArray} (hy : u.occ y = true) : lk y L = none := h _ (ZqS hx) y hy
theorem ZDQ (L : SB) (t : ST) : (∀ y, t.occ y = true → lk y L = none) → t.sub L = t := by
 induction t with
 | v s => intro h; rw [ST.sub, h s (by simp [ST.occ])]; rfl
 | k s => intro h; rfl
 | a f x ihf ihx => intro h; rw [ST.sub, ihf fun y hy => h y (by simp [ST.occ, hy]), ihx fun y hy => h y (by simp [ST.occ, hy])]
theorem ZuI {L : SB} (hI : ZrN L) (t : ST) {y : ByteArray} (h : (t.sub L).occ y = true) : lk y L = none := by
 obtain ⟨x, _, h | ⟨u, h1, h2⟩⟩ := (Zqv L y t).1 h
 ·exact h.2 ▸ h.1
 ·exact ZwR hI h1 h2
theorem Zvq {L : SB} (hI : ZrN L) (t : ST) : (t.sub L).sub L = t.sub L := ZDQ L _ fun y hy => ZuI hI t hy
theorem ZwN {L : SB} (hI : ZrN L) (t : ST) : (t.res L).sub L = t.sub L := by
 cases t with
 | v s =>
  show ((lk s L).getD (.v s)).sub L = (lk s L).getD (.v s)
  have := Zvq hI (.v s)
  exact this
 | k s => rfl
 | a f x => rfl
theorem Zt0 {L : SB} (hI : ZrN L) {t : ST} {x : ByteArray} (h : t.res L = .v x) : lk x L = none := by
 cases t with
 | v s =>
  rw [ST.res] at h
  cases hs : lk s L with
  | none => rw [hs] at h; injection h with h; exact h ▸ hs
  | some u => rw [hs] at h; simp only [Option.getD_some] at h; subst h; exact ZwR hI hs (by simp [ST.occ])
 | k s => cases h
 | a f x => cases h
theorem ZuW {L : SB} (hL : Zgh L) {t : ST} (ht : t.good) : (t.res L).good := by
 cases t with
 | v s =>
  rw [ST.res]
  cases hs : lk s L with
  | none => exact ht
  | some u => exact Znn hL hs
 | k s => exact ht
 | a f x => exact ht
theorem ZwJ {L : SB} {t : ST} {y : ByteArray} (h : (t.res L).occ y = true) : t.occ y = true ∨ ∃ p ∈ L, p.2.occ y = true := by
 cases t with
 | v s =>
  rw [ST.res] at h
  cases hs : lk s L with
  | none => rw [hs] at h; exact .inl h
  | some u => rw [hs] at h; exact .inr ⟨_, ZqS hs, h⟩
 | k s => exact .inl h
 | a f x => exact .inl h
theorem ZxG {L : SB} (hL : Zgh L) (t : ST) : (t.sub L).dep ≤ t.dep + 99 := by
 induction t with
 | v s =>
  rw [ST.sub]
  cases hs : lk s L with
  | none => simp [ST.dep]
  | some u => have := Zdg.1 (Znn hL hs).2; simp only [Option.getD_some, ST.dep]; omega
 | k s => simp [ST.sub, ST.dep]
 | a f x ihf ihx => rw [ST.sub, ST.dep, ST.dep]; omega
def ZnM (L : SB) (v : ByteArray) (u : ST) : SB := L.map (bg v u) ++ [(v, u)]
theorem ZAq (x v : ByteArray) (u : ST) : ∀ L : SB, lk x (L.map (bg v u)) = (lk x L).map fun t => t.sub [(v, u)]
 | [] => rfl
 | p :: L => by
  rw [List.map_cons, lk, lk, ZAq x v u L]
  show (if p.1 = x then _ else _) = _
  by_cases h : p.1 = x
  ·rw [if_pos h, if_pos h]; rfl
  ·rw [if_neg h, if_neg h]
theorem ZrV (x v : ByteArray) (u : ST) : lk x [(v, u)] = if v = x then some u else none := by rw [lk]; rfl
theorem Zpj (x v : ByteArray) (u : ST) (L : SB) : lk x (ZnM L v u) = match lk x L with | some t => some (t.sub [(v, u)]) | none => if v = x then some u else none := by
 unfold ZnM
 rw [Zv4, ZAq]
 cases lk x L with
 | some t => rfl
 | none => exact ZrV x v u
theorem Zw0 {L : SB} {v : ByteArray} {u : ST} (t : ST) : t.sub (ZnM L v u) = (t.sub L).sub [(v, u)] := by
 induction t with
 | v s =>
  rw [ST.sub, ST.sub, Zpj]
  cases hs : lk s L with
  | some w => rfl
  | none =>
   show _ = (ST.v s).sub [(v, u)]
   rw [ST.sub, ZrV]
 | k s => rfl
 | a f x ihf ihx => rw [ST.sub, ihf, ihx]; rfl
theorem ZxJ {v y : ByteArray} {u t : ST} (h : (t.sub [(v, u)]).occ y = true) : (t.occ y = true ∧ y ≠ v) ∨ (u.occ y = true ∧ t.occ v = true) := by
 obtain ⟨x, h1, ⟨h2, h3⟩ | ⟨w, h2, h3⟩⟩ := (Zqv _ y t).1 h
 ·rw [ZrV] at h2
  subst h3
  exact .inl ⟨h1, fun e => by rw [if_pos e.symm] at h2; cases h2⟩
 ·rw [ZrV] at h2
  by_cases e : v = x
  ·rw [if_pos e] at h2; injection h2 with h2; subst e h2; exact .inr ⟨h3, h1⟩
  ·rw [if_neg e] at h2; cases h2
theorem Zzz {L : SB} (hI : ZrN L) {v : ByteArray} {t : ST} (hv : lk v L = none) (ho : (t.sub L).occ v = false) : ZrN (ZnM L v (t.sub L)) := by
 have key : ∀ y, lk y L = none → y ≠ v → lk y (ZnM L v (t.sub L)) = none := fun y h1 h2 => by rw [Zpj, h1]; exact if_neg fun e => h2 e.symm
 have ku : ∀ y, (t.sub L).occ y = true → lk y (ZnM L v (t.sub L)) = none := fun y hy => key y (ZuI hI t hy) fun e => by subst e; rw [ho] at hy; cases hy
 intro p hp y hy
 unfold ZnM at hp
 rcases List.mem_append.1 hp with hp | hp
 ·obtain ⟨q, hq, rfl⟩ := List.mem_map.1 hp
  rcases ZxJ hy with ⟨h1, h2⟩ | ⟨h1, _⟩
  ·exact key y (hI q hq y h1) h2
  ·exact ku y h1
 ·rw [List.mem_singleton] at hp; subst hp; exact ku y hy
theorem Zxh {v : ByteArray} {u : ST} {M : SB} (h : (ST.v v).sub M = u.sub M) (w : ST) : (w.sub [(v, u)]).sub M = w.sub M := by
 induction w with
 | v s =>
  rw [ST.sub, ZrV]
  by_cases e : v = s
  ·rw [if_pos e, ← e]; exact h.symm
  ·rw [if_neg e]; rfl
 | k s => rfl
 | a f x ihf ihx => rw [ST.sub, ST.sub, ihf, ihx]; rfl
def unb (V : List ByteArray) (L : SB) : Nat := (V.filter fun x => (lk x L).isNone).length
theorem Zsx {α : Type} (p q : α → Bool) (hpq : ∀ x, q x = true → p x = true) : ∀ (V : List α) (v : α), v ∈ V → p v = true → q v = false → (V.filter q).length < (V.filter p).length
 | a :: V, v, hv, hp, hq => by
  have le : ∀ V : List α, (V.filter q).length ≤ (V.filter p).length := fun V => by
   induction V with
   | nil => exact Nat.le_refl _
   | cons a V ih =>
    rw [List.filter_cons, List.filter_cons]
    cases h1 : q a with
    | true => rw [hpq a h1]; simpa using ih
    | false => cases p a <;> simp <;> omega
  rw [List.filter_cons, List.filter_cons]
  rcases List.mem_cons.1 hv with rfl | hv
  ·rw [hp, hq]; have := le V; simp; omega
  ·have ih := Zsx p q hpq V v hv hp hq
   cases h1 : q a with
   | true => rw [hpq a h1]; simpa using ih
   | false => cases p a <;> simp <;> omega
theorem ZA7 {V : List ByteArray} {L : SB} {v : ByteArray} {u : ST} (hv : v ∈ V) (hf : lk v L = none) : unb V (ZnM L v u) < unb V L := by
 refine Zsx _ _ (fun x hx => ?_) V v hv (by rw [hf]; rfl) (by rw [Zpj, hf]; simp)
 rw [Zpj] at hx
 cases h : lk x L with
 | none => rfl
 | some w => rw [h] at hx; cases hx
theorem ZAz {L : SB} (hL : Zgh L) {v : ByteArray} {t : ST} (hv : Zmm v = true ∧ v.size ≤ 1048576) (ht : t.good) (hb : (t.sub L).big = false) (hg : L.any (Znb v (t.sub L)) = false) : Zgh (ZnM L v (t.sub L)) := by
 have hu : Zgh [(v, t.sub L)] := fun p hp => by rw [List.mem_singleton] at hp; subst hp; exact ⟨⟨ZoW hL t ht.1, hb⟩, hv⟩
 intro p hp
 unfold ZnM at hp
 rcases List.mem_append.1 hp with hp | hp
 ·obtain ⟨q, hq, rfl⟩ := List.mem_map.1 hp
  have hq' := hL q hq
  refine ⟨⟨ZoW hu q.2 hq'.1.1, ?_⟩, hq'.2⟩
  rw [List.any_eq_false] at hg
  have := hg q hq
  show (q.2.sub [(v, t.sub L)]).big = false
  simpa [Znb] using this
 ·exact hu p hp
def Vin (V : List ByteArray) (L : SB) : Prop := ∀ p ∈ L, ∀ y, p.2.occ y = true → y ∈ V
theorem Zxo {V : List ByteArray} {L : SB} (h : Vin V L) {t : ST} (ht : ∀ y, t.occ y = true → y ∈ V) {y : ByteArray} (hy : (t.sub L).occ y = true) : y ∈ V := by
 obtain ⟨x, h1, ⟨_, h3⟩ | ⟨w, h2, h3⟩⟩ := (Zqv _ y t).1 hy
 ·exact h3 ▸ ht x h1
 ·exact h _ (ZqS h2) y h3
theorem ZBd {V : List ByteArray} {L : SB} (h : Vin V L) {v : ByteArray} {t : ST} (ht : ∀ y, t.occ y = true → y ∈ V) : Vin V (ZnM L v (t.sub L)) := by
 intro p hp y hy
 unfold ZnM at hp
 rcases List.mem_append.1 hp with hp | hp
 ·obtain ⟨q, hq, rfl⟩ := List.mem_map.1 hp
  rcases ZxJ hy with ⟨h1, _⟩ | ⟨h1, _⟩
  ·exact h q hq y h1
  ·exact Zxo h ht h1
 ·rw [List.mem_singleton] at hp; subst hp; exact Zxo h ht hy
theorem ZyA {L : SB} {v : ByteArray} {t : ST} (h : (Zf8 L v t).1 = 0) : (t.sub L).occ v = false ∧ (t.sub L).big = false ∧ L.any (Znb v (t.sub L)) = false ∧ (Zf8 L v t).2 = ZnM L v (t.sub L) := by
 unfold Zf8 at h ⊢
 cases h1 : (t.sub L).occ v with
 | true => rw [h1] at h; cases h
 | false =>
  cases h2 : (t.sub L).big with
  | true => rw [h1, h2] at h; cases h
  | false =>
   cases h3 : L.any (Znb v (t.sub L)) with
   | true => rw [h1, h2, h3] at h; cases h
   | false => exact ⟨rfl, rfl, rfl, rfl⟩
theorem bindP_bad {L : SB} {v : ByteArray} {t : ST} (h : (Zf8 L v t).1 ≠ 0) : (Zf8 L v t).2 = [] := by
 unfold Zf8 at h ⊢
 cases h1 : (t.sub L).occ v with
 | true => rfl
 | false =>
  cases h2 : (t.sub L).big with
  | true => rfl
  | false =>
   cases h3 : L.any (Znb v (t.sub L)) with
   | true => rfl
   | false => rw [h1, h2, h3] at h; exact absurd rfl h

abbrev SP := List (ST × ST)
def toP (p : ST × ST) : Zl := Zl.mk p.1.ty p.2.ty
def stk (T : SP) : List Zl := T.reverse.map toP
theorem Zk2 (p : ST × ST) (T : SP) : stk (p :: T) = stk T ++ [toP p] := by simp [stk]
theorem Zqu (T : SP) : (stk T).length = T.length := by simp [stk]
theorem ZyN {α : Type} (S : List α) (q : α) (h : S.length ≤ 1000000000) : ixI (S ++ [q]) (IntKind.i64.wrap ((((S ++ [q]).length : Nat) : Int) - 1)) = some q := by
 rw [List.length_append, List.length_cons, List.length_nil, w64 (by omega) (by omega), show ((S.length + (0 + 1) : Nat) : Int) - 1 = ((S.length : Nat) : Int) from by omega, ZlB]
 simp
theorem ZAn {α : Type} (S : List α) (q : α) (h : S.length ≤ 1000000000) : slL (S ++ [q]) ((0 : Nat) : Int) (IntKind.i64.wrap ((((S ++ [q]).length : Nat) : Int) - 1)) = some S := by
 rw [List.length_append, List.length_cons, List.length_nil, w64 (by omega) (by omega), show ((S.length + (0 + 1) : Nat) : Int) - 1 = ((S.length : Nat) : Int) from by omega]
 unfold slL
 rw [if_pos ⟨by omega, by omega, by simp; omega⟩]
 simp
def ZiX (L : SB) (S : List Zl) (A B : Za) : Option (Int × Zu × List Zl) :=
 if (((A.fOp == 1) && (B.fOp == 1)) && (A.fName.toList == B.fName.toList)) = true then Zp 0 (atL 0 L) (L.map toB) S
 else if (A.fOp == 1) = true then ZaC ⟨L.map toB, atL 0 L⟩ A.fName B >>= fun r => Zp r.1 r.2.fat r.2.flist S
 else if (B.fOp == 1) = true then ZaC ⟨L.map toB, atL 0 L⟩ B.fName A >>= fun r => Zp r.1 r.2.fat r.2.flist S
 else if (((A.fOp == 2) && (B.fOp == 2)) && (A.fName.toList == B.fName.toList)) = true then Zp 0 (atL 0 L) (L.map toB) S
 else if ((A.fOp == 3) && (B.fOp == 3)) = true then
  (ixI A.fKids 1) >>= fun x1 => (ixI B.fKids 1) >>= fun y1 => (ixI A.fKids 0) >>= fun x0 => (ixI B.fKids 0) >>= fun y0 =>
  Z5 ((S.length + ([(Zl.mk x1 y1), (Zl.mk x0 y0)]).length) * 144 ≤ 140737488355328) >>= fun _ =>
  Zp 0 (atL 0 L) (L.map toB) (S ++ ([(Zl.mk x1 y1), (Zl.mk x0 y0)]))
 else Zp 22 (atL 0 L) (L.map toB) S
theorem Ztg (L : SB) (T : SP) (a b : ST) (h : T.length ≤ 1000000000) : ZB (atL 0 L) (L.map toB) (stk ((a, b) :: T)) = ZiX L (stk T) (a.res L).ty (b.res L).ty := by
 have hs : (stk T).length ≤ 1000000000 := by rw [Zqu]; exact h
 rw [Zk2, ZB, ZyN _ _ hs, ZAn _ _ hs, decide_eq_true (by simp <;> omega), ifT, Zn]
 show (ZaP ⟨L.map toB, atL 0 L⟩ a.ty >>= _) = _
 rw [ZBQ, Zn, Zn]
 show (ZaP ⟨L.map toB, atL 0 L⟩ b.ty >>= _) = _
 rw [ZBQ]; rfl
def ZkC (L : SB) (S : List Zl) (A B : Za) : Option (List Ze × Int) :=
 if (((A.fOp == 1) && (B.fOp == 1)) && (A.fName.toList == B.fName.toList)) = true then Zs (L.map toB) 0 S
 else if (A.fOp == 1) = true then Za6 (L.map toB) A.fName B >>= fun r => Zs r.1 r.2 S
 else if (B.fOp == 1) = true then Za6 (L.map toB) B.fName A >>= fun r => Zs r.1 r.2 S
 else if (((A.fOp == 2) && (B.fOp == 2)) && (A.fName.toList == B.fName.toList)) = true then Zs (L.map toB) 0 S
 else if ((A.fOp == 3) && (B.fOp == 3)) = true then
  (ixI A.fKids 1) >>= fun x1 => (ixI B.fKids 1) >>= fun y1 => (ixI A.fKids 0) >>= fun x0 => (ixI B.fKids 0) >>= fun y0 =>
  Z5 ((S.length + ([(Zl.mk x1 y1), (Zl.mk x0 y0)]).length) * 144 ≤ 140737488355328) >>= fun _ =>
  Zs (L.map toB) 0 (S ++ ([(Zl.mk x1 y1), (Zl.mk x0 y0)]))
 else Zs (L.map toB) 22 S
theorem ZDw (L : SB) (T : SP) (a b : ST) (h : T.length ≤ 1000000000) : Zs (L.map toB) 0 (stk ((a, b) :: T)) = ZkC L (stk T) (a.res L).ty (b.res L).ty := by
 have hs : (stk T).length ≤ 1000000000 := by rw [Zqu]; exact h
 rw [Zk2, Zs, ZyN _ _ hs, ZAn _ _ hs, decide_eq_true (by simp <;> omega)]
 show ((some (toP (a, b))) >>= _) = _
 rw [Zn]
 show (Zbd (L.map toB) a.ty >>= _) = _
 rw [ZBV, Zn, Zn]
 show (Zbd (L.map toB) b.ty >>= _) = _
 rw [ZBV]; rfl
theorem ZGd (s : List Ze) (e : Int) (he : e ≠ 0) (S : List Zl) : Zs s e S = some ([], e) := by
 have h1 : (e == 0) = false := by rw [beq_eq_false_iff_ne]; exact he
 have h2 : (e != 0) = true := by rw [bne, h1]; rfl
 rw [Zs, h1, Bool.and_false, ifF, h2, ifT]
theorem ZAi (e : Int) (he : e ≠ 0) (at_ : List (ByteArray × Int)) (l : List Ze) (S : List Zl) : Zp e at_ l S = some (e, ⟨[], []⟩, S) := by
 have h1 : (e == 0) = false := by rw [beq_eq_false_iff_ne]; exact he
 have h2 : (e != 0) = true := by rw [bne, h1]; rfl
 rw [Zp, h2, ifT]
theorem ZA4 (at_ : List (ByteArray × Int)) (l : List Ze) (S : List Zl) : Zp 0 at_ l S = ZB at_ l S := by
 rw [Zp]; rfl
def HOk (L : SB) (h0 : Nat) : SP → Prop
 | [] => True
 | p :: T => (T.length + 1 ≤ h0 ∨ (p.1.sub L).dep + (T.length + 1) ≤ 200 + h0) ∧ HOk L h0 T
theorem ZBv (t : ST) : 1 ≤ t.dep := by cases t <;> simp [ST.dep]
theorem ZwT {L : SB} {h0 : Nat} : ∀ {T : SP}, HOk L h0 T → T.length ≤ h0 + 200
 | [], _ => Nat.zero_le _
 | p :: T, h => by have := ZBv (p.1.sub L); have h := h.1; rw [List.length_cons]; omega
theorem ZtX {L : SB} {h0 : Nat} : ∀ {T : SP}, T.length ≤ h0 → HOk L h0 T
 | [], _ => trivial
 | p :: T, h => by rw [List.length_cons] at h; exact ⟨.inl h, ZtX (by omega)⟩
structure Ans (V : List ByteArray) (L : SB) (T : SP) (e : Int) (L' : SB) : Prop where
 bad : e ≠ 0 → L' = []
 good : Zgh L'
 idem : ZrN L'
 ext : e = 0 → ∀ t : ST, (t.sub L).sub L' = t.sub L'
 eqs : e = 0 → ∀ p ∈ T, p.1.sub L' = p.2.sub L'
 len : L'.length ≤ 1000000000
 err : e = 0 ∨ e = 3 ∨ e = 22 ∨ e = 23
structure Inv (V : List ByteArray) (L : SB) (T : SP) (h0 : Nat) : Prop where
 good : Zgh L
 idem : ZrN L
 vin : Vin V L
 tgood : ∀ p ∈ T, p.1.good ∧ p.2.good
 tin : ∀ p ∈ T, ∀ y, (p.1.occ y = true ∨ p.2.occ y = true) → y ∈ V
 vok : ∀ y ∈ V, Zmm y = true ∧ y.size ≤ 1048576
 hok : HOk L h0 T
 top : h0 + 200 * unb V L ≤ 500000000
 len : L.length + unb V L ≤ 500000000
def tot (L : SB) : SP → Nat
 | [] => 0
 | p :: T => (p.1.sub L).nod + tot L T
theorem Ans.nil {V : List ByteArray} {L : SB} {T : SP} {e : Int} (he : e = 3 ∨ e = 22 ∨ e = 23) : Ans V L T e [] :=
 ⟨fun _ => rfl, fun p hp => absurd hp List.not_mem_nil, fun p hp => absurd hp List.not_mem_nil, fun h => by rcases he with he | he | he <;> (rw [he] at h; cases h), fun h => by rcases he with he | he | he <;> (rw [he] at h; cases h), by simp, .inr he⟩
def Zoe (V : List ByteArray) (L : SB) (T : SP) (n : Option (Int × Zu × List Zl)) (r : Option (List Ze × Int)) : Prop :=
 ∃ e L' s' S', n = some (e, s', S') ∧ s'.flist = L'.map toB ∧ r = some (L'.map toB, e) ∧ Ans V L T e L'
theorem Zoe.err {V : List ByteArray} {L M : SB} {T : SP} {e : Int} (he : e = 3 ∨ e = 22 ∨ e = 23) {at_ : List (ByteArray × Int)} {l : List Ze} {l2 : List Ze} {S S2 : List Zl} : Zoe V L T (Zp e at_ l S) (Zs l2 e S2) := by
 have h0 : e ≠ 0 := by rcases he with he | he | he <;> (rw [he]; decide)
 rw [ZAi e h0, ZGd _ e h0]
 exact ⟨e, [], _, _, rfl, rfl, rfl, Ans.nil he⟩
theorem ZxK (L : SB) (v : ByteArray) (t : ST) : (Zf8 L v t).1 = 0 ∨ (Zf8 L v t).1 = 3 ∨ (Zf8 L v t).1 = 22 ∨ (Zf8 L v t).1 = 23 := by
 unfold Zf8
 split
 ·simp
 ·split
  ·simp
  ·split <;> simp
theorem Zx6 {V : List ByteArray} {L : SB} {T : SP} {h0 : Nat} {p : ST × ST} (hI : Inv V L (p :: T) h0) {v : ByteArray} {t : ST} (hv : lk v L = none) (hvV : v ∈ V) (ht : t.good) (htV : ∀ y, t.occ y = true → y ∈ V)
  (hp : (p.1.sub L = .v v ∧ p.2.sub L = t.sub L) ∨ (p.2.sub L = .v v ∧ p.1.sub L = t.sub L))
  (rec_ : ∀ (L1 : SB) (h1 : Nat), unb V L1 < unb V L → Inv V L1 T h1 → Zoe V L1 T (ZB (atL 0 L1) (L1.map toB) (stk T)) (Zs (L1.map toB) 0 (stk T))) :
  Zoe V L (p :: T) (ZaC ⟨L.map toB, atL 0 L⟩ v t.ty >>= fun r => Zp r.1 r.2.fat r.2.flist (stk T)) (Za6 (L.map toB) v t.ty >>= fun r => Zs r.1 r.2 (stk T)) := by
 have hlen : L.length ≤ 1000000000 := by have := hI.len; omega
 obtain ⟨s', h1, h2⟩ := ZvQ L hI.good v (hI.vok v hvV) hv t ht hlen
 rw [h1, Zn, ZDe L hI.good v (hI.vok v hvV) t ht hlen, Zn]
 by_cases he : (Zf8 L v t).1 = 0
 ·obtain ⟨b1, b2, b3, b4⟩ := ZyA he
  rw [h2 he, b4, he, ZA4]
  have hT := ZwT hI.hok.2
  have hun := ZA7 (u := t.sub L) hvV hv
  have hI1 : Inv V (ZnM L v (t.sub L)) T (h0 + 200) :=
   ⟨ZAz hI.good (hI.vok v hvV) ht b2 b3, Zzz hI.idem hv b1, ZBd hI.vin htV, fun q hq => hI.tgood q (List.mem_cons_of_mem _ hq), fun q hq => hI.tin q (List.mem_cons_of_mem _ hq), hI.vok, ZtX hT,
    by have := hI.top; omega, by have := hI.len; have e : (ZnM L v (t.sub L)).length = L.length + 1 := by simp [ZnM]
                                 omega⟩
  obtain ⟨e, L', s1, S1, g1, g2, g3, A⟩ := rec_ _ _ hun hI1
  refine ⟨e, L', s1, S1, g1, g2, g3, ⟨A.bad, A.good, A.idem, ?_, ?_, A.len, A.err⟩⟩
  ·intro h0 w
   have h3 := A.ext h0
   have hx : (ST.v v).sub L' = (t.sub L).sub L' := by
    have := h3 (.v v)
    rw [ST.sub, Zpj, hv] at this
    simp only [if_true, Option.getD_some] at this
    exact this.symm
   rw [← Zxh hx (w.sub L), ← Zw0, h3]
  ·intro h0 q hq
   rcases List.mem_cons.1 hq with rfl | hq
   ·have h3 := A.ext h0
    have hx : (ST.v v).sub L' = (t.sub L).sub L' := by
     have := h3 (.v v)
     rw [ST.sub, Zpj, hv] at this
     simp only [if_true, Option.getD_some] at this
     exact this.symm
    have hw : ∀ w : ST, (w.sub L).sub L' = w.sub L' := fun w => by rw [← Zxh hx (w.sub L), ← Zw0, h3]
    rcases hp with ⟨p1, p2⟩ | ⟨p1, p2⟩
    ·rw [← hw q.1, ← hw q.2, p1, p2, hx]
    ·rw [← hw q.1, ← hw q.2, p1, p2, hx]
   ·exact A.eqs h0 q hq
 ·have h3 := (ZxK L v t).resolve_left he
  exact Zoe.err (M := L) h3
theorem Zoe.back {V : List ByteArray} {L : SB} {T T' : SP} {n : Option (Int × Zu × List Zl)} {r : Option (List Ze × Int)} (h : Zoe V L T' n r) (hq : ∀ L' : SB, (∀ t : ST, (t.sub L).sub L' = t.sub L') → (∀ p ∈ T', p.1.sub L' = p.2.sub L') → ∀ p ∈ T, p.1.sub L' = p.2.sub L') : Zoe V L T n r := by
 obtain ⟨e, L', s', S', h1, h2, h3, A⟩ := h
 exact ⟨e, L', s', S', h1, h2, h3, ⟨A.bad, A.good, A.idem, A.ext, fun h0 => hq L' (A.ext h0) (A.eqs h0), A.len, A.err⟩⟩
theorem ZwH {p : Prop} [Decidable p] {α : Type} (x y : α) : (if decide p = true then x else y) = if p then x else y := by by_cases h : p <;> simp [h]
theorem Zwi (L : SB) (S : List Zl) (x : ByteArray) : ZiX L S (ST.v x).ty (ST.v x).ty = Zp 0 (atL 0 L) (L.map toB) S := by
 unfold ZiX
 show (if (x.toList == x.toList) = true then _ else _) = _
 rw [Zk7, decide_eq_true rfl, ifT]
theorem ZqW (L : SB) (S : List Zl) (x : ByteArray) (t : ST) (h : ∀ y, t = .v y → x ≠ y) : ZiX L S (ST.v x).ty t.ty = (ZaC ⟨L.map toB, atL 0 L⟩ x t.ty >>= fun r => Zp r.1 r.2.fat r.2.flist S) := by
 unfold ZiX
 cases t with
 | v y =>
  show (if (x.toList == y.toList) = true then _ else _) = _
  rw [Zk7, decide_eq_false (h y rfl), ifF]; rfl
 | k s => rfl
 | a f z => rfl
theorem ZuD (L : SB) (S : List Zl) (x : ByteArray) (t : ST) (h : t.isv = false) : ZiX L S t.ty (ST.v x).ty = (ZaC ⟨L.map toB, atL 0 L⟩ x t.ty >>= fun r => Zp r.1 r.2.fat r.2.flist S) := by
 unfold ZiX
 cases t with
 | v y => cases h
 | k s => rfl
 | a f z => rfl
theorem Zvm (L : SB) (S : List Zl) (x y : ByteArray) : ZiX L S (ST.k x).ty (ST.k y).ty = if x = y then Zp 0 (atL 0 L) (L.map toB) S else Zp 22 (atL 0 L) (L.map toB) S := by
 unfold ZiX
 show (if (x.toList == y.toList) = true then _ else _) = _
 rw [Zk7, ZwH]; rfl
theorem ZzS (L : SB) (S : List Zl) (x : ByteArray) (f z : ST) : ZiX L S (ST.k x).ty (ST.a f z).ty = Zp 22 (atL 0 L) (L.map toB) S := rfl
theorem ZyK (L : SB) (S : List Zl) (x : ByteArray) (f z : ST) : ZiX L S (ST.a f z).ty (ST.k x).ty = Zp 22 (atL 0 L) (L.map toB) S := rfl
theorem ZvU (L : SB) (S : List Zl) (x : ByteArray) : ZkC L S (ST.v x).ty (ST.v x).ty = Zs (L.map toB) 0 S := by
 unfold ZkC
 show (if (x.toList == x.toList) = true then _ else _) = _
 rw [Zk7, decide_eq_true rfl, ifT]
theorem ZzY (L : SB) (S : List Zl) (x : ByteArray) (t : ST) (h : ∀ y, t = .v y → x ≠ y) : ZkC L S (ST.v x).ty t.ty = (Za6 (L.map toB) x t.ty >>= fun r => Zs r.1 r.2 S) := by
 unfold ZkC
 cases t with
 | v y =>
  show (if (x.toList == y.toList) = true then _ else _) = _
  rw [Zk7, decide_eq_false (h y rfl), ifF]; rfl
 | k s => rfl
 | a f z => rfl
theorem ZuP (L : SB) (S : List Zl) (x : ByteArray) (t : ST) (h : t.isv = false) : ZkC L S t.ty (ST.v x).ty = (Za6 (L.map toB) x t.ty >>= fun r => Zs r.1 r.2 S) := by
 unfold ZkC
 cases t with
 | v y => cases h
 | k s => rfl
 | a f z => rfl
theorem ZAk (L : SB) (S : List Zl) (x y : ByteArray) : ZkC L S (ST.k x).ty (ST.k y).ty = if x = y then Zs (L.map toB) 0 S else Zs (L.map toB) 22 S := by
 unfold ZkC
 show (if (x.toList == y.toList) = true then _ else _) = _
 rw [Zk7, ZwH]; rfl
theorem Zz9 (L : SB) (S : List Zl) (x : ByteArray) (f z : ST) : ZkC L S (ST.k x).ty (ST.a f z).ty = Zs (L.map toB) 22 S := rfl
theorem ZzZ (L : SB) (S : List Zl) (x : ByteArray) (f z : ST) : ZkC L S (ST.a f z).ty (ST.k x).ty = Zs (L.map toB) 22 S := rfl
theorem ZAc (L : SB) (T : SP) (f z g w : ST) (h : T.length ≤ 600000000) : ZiX L (stk T) (ST.a f z).ty (ST.a g w).ty = Zp 0 (atL 0 L) (L.map toB) (stk ((f, g) :: (z, w) :: T)) := by
 unfold ZiX
 show (Z5 _ >>= fun _ => Zp 0 (atL 0 L) (L.map toB) (stk T ++ [toP (z, w), toP (f, g)])) = _
 rw [Zde _ (by rw [Zqu]; simp only [List.length_cons, List.length_nil]; omega), Zk2, Zk2, List.append_assoc]; rfl
theorem ZAG (L : SB) (T : SP) (f z g w : ST) (h : T.length ≤ 600000000) : ZkC L (stk T) (ST.a f z).ty (ST.a g w).ty = Zs (L.map toB) 0 (stk ((f, g) :: (z, w) :: T)) := by
 unfold ZkC
 show (Z5 _ >>= fun _ => Zs (L.map toB) 0 (stk T ++ [toP (z, w), toP (f, g)])) = _
 rw [Zde _ (by rw [Zqu]; simp only [List.length_cons, List.length_nil]; omega), Zk2, Zk2, List.append_assoc]; rfl
theorem ZsO {f x : ST} (h : (ST.a f x).good) : f.good ∧ x.good := by
 have h1 := h.1
 have h2 := Zdg.1 h.2
 rw [ST.nms, Bool.and_eq_true] at h1
 rw [ST.nod, ST.dep] at h2
 exact ⟨⟨h1.1, Zdg.2 (by omega)⟩, ⟨h1.2, Zdg.2 (by omega)⟩⟩
theorem Zwf (V : List ByteArray) : ∀ (m : Nat) (n : Nat) (L : SB) (T : SP) (h0 : Nat), unb V L = m → tot L T = n → Inv V L T h0 →
  Zoe V L T (ZB (atL 0 L) (L.map toB) (stk T)) (Zs (L.map toB) 0 (stk T)) := by
 intro m
 induction m using Nat.strongRecOn with
 | _ m ihm =>
 intro n
 induction n using Nat.strongRecOn with
 | _ n ihn =>
 intro L T h0 hm hn hI
 have rec_ : ∀ (T : SP) (L1 : SB) (h1 : Nat), unb V L1 < unb V L → Inv V L1 T h1 → Zoe V L1 T (ZB (atL 0 L1) (L1.map toB) (stk T)) (Zs (L1.map toB) 0 (stk T)) :=
  fun T L1 h1 hu hi => ihm _ (hm ▸ hu) _ L1 T h1 rfl rfl hi
 match T, hn, hI with
 | [], hn, hI =>
  refine ⟨0, L, ⟨L.map toB, atL 0 L⟩, [], ?_, rfl, ?_, ⟨fun h => absurd rfl h, hI.good, hI.idem, fun _ t => Zvq hI.idem t, fun _ p hp => absurd hp List.not_mem_nil, by have := hI.len; omega, .inl rfl⟩⟩
  ·show ZB _ _ [] = _; rw [ZB]; rfl
  ·show Zs _ 0 [] = _; rw [Zs]; rfl
 | (a, b) :: T, hn, hI =>
  have hT : T.length ≤ h0 + 200 := ZwT hI.hok.2
  have hT2 : T.length ≤ 1000000000 := by have := hI.top; omega
  rw [Ztg L T a b hT2, ZDw L T a b hT2]
  have hab := hI.tgood _ (List.mem_cons_self ..)
  have ga := ZuW hI.good hab.1
  have gb := ZuW hI.good hab.2
  have sa := ZwN hI.idem a
  have sb := ZwN hI.idem b
  have hin := hI.tin _ (List.mem_cons_self ..)
  have va : ∀ y, (a.res L).occ y = true → y ∈ V := fun y hy => by
   rcases ZwJ hy with h | ⟨p, hp, h⟩
   ·exact hin y (.inl h)
   ·exact hI.vin p hp y h
  have vb : ∀ y, (b.res L).occ y = true → y ∈ V := fun y hy => by
   rcases ZwJ hy with h | ⟨p, hp, h⟩
   ·exact hin y (.inr h)
   ·exact hI.vin p hp y h
  have hI0 : Inv V L T h0 := ⟨hI.good, hI.idem, hI.vin, fun q hq => hI.tgood q (List.mem_cons_of_mem _ hq), fun q hq => hI.tin q (List.mem_cons_of_mem _ hq), hI.vok, hI.hok.2, hI.top, hI.len⟩
  have htot : tot L T < n := by rw [← hn]; show _ < (a.sub L).nod + tot L T; have := ZBD (a.sub L); omega
  have skip : a.sub L = b.sub L → Zoe V L ((a, b) :: T) (Zp 0 (atL 0 L) (L.map toB) (stk T)) (Zs (L.map toB) 0 (stk T)) := fun heq => by
   rw [ZA4]
   refine (ihn _ htot L T h0 hm rfl hI0).back fun L' h1 h2 p hp => ?_
   rcases List.mem_cons.1 hp with rfl | hp
   ·show a.sub L' = b.sub L'; rw [← h1 a, heq, h1]
   ·exact h2 p hp
  generalize ha' : a.res L = A at *
  generalize hb' : b.res L = B at *
  have bnd : ∀ (x : ByteArray) (t : ST), lk x L = none → x ∈ V → t.good → (∀ y, t.occ y = true → y ∈ V) → ((a.sub L = .v x ∧ b.sub L = t.sub L) ∨ (b.sub L = .v x ∧ a.sub L = t.sub L)) →
    Zoe V L ((a, b) :: T) (ZaC ⟨L.map toB, atL 0 L⟩ x t.ty >>= fun r => Zp r.1 r.2.fat r.2.flist (stk T)) (Za6 (L.map toB) x t.ty >>= fun r => Zs r.1 r.2 (stk T)) :=
   fun x t h1 h2 h3 h4 h5 => Zx6 hI h1 h2 h3 h4 h5 (rec_ T)
  cases hA : A with
  | v x =>
   rw [hA] at ha' va sa
   have hx := Zt0 hI.idem ha'
   have hxs : a.sub L = .v x := by rw [← sa, ST.sub, hx]; rfl
   have hxV := va x (by simp [ST.occ])
   by_cases hB : B = .v x
   ·rw [hB] at sb ⊢
    rw [Zwi, ZvU]
    exact skip (by rw [hxs, ← sb, ST.sub, hx]; rfl)
   ·have hne : ∀ y, B = .v y → x ≠ y := fun y hy e => hB (by rw [hy, e])
    rw [ZqW _ _ _ _ hne, ZzY _ _ _ _ hne]
    exact bnd x B hx hxV gb vb (.inl ⟨hxs, sb.symm⟩)
  | k s =>
   rw [hA] at ha' va sa ga
   cases hB : B with
   | v y =>
    rw [hB] at hb' vb sb
    have hy := Zt0 hI.idem hb'
    have hys : b.sub L = .v y := by rw [← sb, ST.sub, hy]; rfl
    rw [ZuD _ _ _ _ rfl, ZuP _ _ _ _ rfl]
    exact bnd y (.k s) hy (vb y (by simp [ST.occ])) ga va (.inr ⟨hys, sa.symm⟩)
   | k s2 =>
    rw [hB] at sb
    rw [Zvm, ZAk]
    by_cases hs : s = s2
    ·rw [if_pos hs, if_pos hs]
     exact skip (by rw [← sa, ← sb, hs])
    ·rw [if_neg hs, if_neg hs]
     exact Zoe.err (M := L) (.inr (.inl rfl))
   | a g w => rw [ZzS, Zz9]; exact Zoe.err (M := L) (.inr (.inl rfl))
  | a f z =>
   rw [hA] at ha' va sa ga
   cases hB : B with
   | v y =>
    rw [hB] at hb' vb sb
    have hy := Zt0 hI.idem hb'
    have hys : b.sub L = .v y := by rw [← sb, ST.sub, hy]; rfl
    rw [ZuD _ _ _ _ rfl, ZuP _ _ _ _ rfl]
    exact bnd y (.a f z) hy (vb y (by simp [ST.occ])) ga va (.inr ⟨hys, sa.symm⟩)
   | k s2 => rw [ZyK, ZzZ]; exact Zoe.err (M := L) (.inr (.inl rfl))
   | a g w =>
    rw [hB] at hb' vb sb gb
    rw [ZAc _ _ _ _ _ _ (by have := hI.top; omega), ZAG _ _ _ _ _ _ (by have := hI.top; omega), ZA4]
    obtain ⟨gf, gz⟩ := ZsO ga
    obtain ⟨gg, gw⟩ := ZsO gb
    have hd := hI.hok.1
    rw [← sa] at hd
    have d0 := ZxG hI.good f
    have d1 := ZxG hI.good z
    have df := (Zdg.1 gf.2).2
    have dz := (Zdg.1 gz.2).2
    have hI1 : Inv V L ((f, g) :: (z, w) :: T) h0 := by
     refine ⟨hI.good, hI.idem, hI.vin, fun q hq => ?_, fun q hq y hy => ?_, hI.vok, ⟨?_, ?_, hI.hok.2⟩, hI.top, hI.len⟩
     ·rcases List.mem_cons.1 hq with rfl | hq
      ·exact ⟨gf, gg⟩
      ·rcases List.mem_cons.1 hq with rfl | hq
       ·exact ⟨gz, gw⟩
       ·exact hI.tgood q (List.mem_cons_of_mem _ hq)
     ·rcases List.mem_cons.1 hq with rfl | hq
      ·exact hy.elim (fun h => va y (by simp [ST.occ, h])) (fun h => vb y (by simp [ST.occ, h]))
      ·rcases List.mem_cons.1 hq with rfl | hq
       ·exact hy.elim (fun h => va y (by simp [ST.occ, h])) (fun h => vb y (by simp [ST.occ, h]))
       ·exact hI.tin q (List.mem_cons_of_mem _ hq) y hy
     ·rw [ST.sub, ST.dep] at hd
      show ((z, w) :: T).length + 1 ≤ h0 ∨ (f.sub L).dep + (((z, w) :: T).length + 1) ≤ 200 + h0
      rw [List.length_cons]
      omega
     ·rw [ST.sub, ST.dep] at hd
      show T.length + 1 ≤ h0 ∨ (z.sub L).dep + (T.length + 1) ≤ 200 + h0
      omega
    refine (ihn _ ?_ L _ h0 hm rfl hI1).back fun L' h1 h2 p hp => ?_
    ·rw [← hn]
     show (f.sub L).nod + ((z.sub L).nod + tot L T) < (a.sub L).nod + tot L T
     rw [← sa, ST.sub, ST.nod]; omega
    ·rcases List.mem_cons.1 hp with rfl | hp
     ·show a.sub L' = b.sub L'
      have e1 := h2 (f, g) (by simp)
      have e2 := h2 (z, w) (by simp)
      rw [← h1 a, ← h1 b, ← sa, ← sb, h1, h1, ST.sub, ST.sub]
      show ST.a _ _ = ST.a _ _
      rw [show f.sub L' = g.sub L' from e1, show z.sub L' = w.sub L' from e2]
     ·exact h2 p (by simp [hp])

def Zof (p : Zl) : Bool := ZoV p.e0 && ZoV p.e1
def Zpn (l : List Zl) : Nat := (l.map fun p => p.e0.vol + p.e1.vol).sum
theorem Zuu {l : List Zl} {p : Zl} (h : p ∈ l) : p.e0.vol + p.e1.vol ≤ Zpn l := by
 induction l with
 | nil => cases h
 | cons q l ih =>
  unfold Zpn at *
  rw [List.map_cons, List.sum_cons]
  rcases List.mem_cons.1 h with rfl | h
  ·omega
  ·have := ih h; omega
theorem ZsH {α : Type} {l : List α} {k : Nat} {x : α} (h : l[k]? = some x) : l.take (k + 1) = l.take k ++ [x] := by
 rw [List.take_add_one, h]; rfl
theorem Zvi {α : Type} {l : List α} {k : Nat} {x : α} (h : l[k]? = some x) : (l.drop k).reverse = (l.drop (k + 1)).reverse ++ [x] := by
 obtain ⟨hk, rfl⟩ := List.getElem?_eq_some_iff.1 h
 rw [List.drop_eq_getElem_cons hk, List.reverse_cons]
def ZCV (pairs : List Zl) : Option (List Ze × Int) :=
 ZcR (Zu.mk ([] : List Ze) ([] : List (ByteArray × Int))) pairs.reverse >>= fun Zps => Zcz Zps.2.1.flist >>= fun Zvd => some (Zvd, Zps.1)
theorem Zw2 (pairs : List Zl) (hl : pairs.length ≤ 1000000000) (hv : ∀ p ∈ pairs, p.e0.vol ≤ 1000000000 ∧ p.e1.vol ≤ 1000000000) : ∀ k : Nat, k ≤ pairs.length →
  ZdG pairs (((k : Nat) : Int) - 1) (pairs.drop k).reverse = if (pairs.take k).all Zof = true then ZCV pairs else some ([], 1)
 | 0, _ => by rw [ZdG, decide_eq_false (by omega), ifF]; rfl
 | k + 1, hk => by
  have hx : pairs[k]? = some pairs[k] := List.getElem?_eq_getElem hk
  have hm := hv _ (List.mem_of_getElem? hx)
  generalize pairs[k] = x at hx hm
  rw [show ((k + 1 : Nat) : Int) - 1 = ((k : Nat) : Int) from by omega, ZdG, decide_eq_true (Int.natCast_nonneg k), ifT, ZlB, hx, Zn, ZB5 _ hm.1, Zn, ZsH hx, List.all_append]
  have e1 : ([x].all Zof) = Zof x := by simp
  have ih := Zw2 pairs hl hv k (by omega)
  rw [e1]; unfold Zof at ih ⊢
  cases h0 : ZoV x.e0 with
  | false => rw [Bool.false_and, Bool.and_false]; rfl
  | true =>
   show ((some x >>= fun x93 => ZdW x93.e1 >>= fun r94 => some (!r94)) >>= _) = _
   rw [Zn, ZB5 _ hm.2, Zn, Zn]
   cases h1 : ZoV x.e1 with
   | false => rw [Bool.and_false, Bool.and_false]; rfl
   | true =>
    rw [Bool.true_and, Bool.and_true, Bool.not_true, ifF, Zn, Zde _ (by simp; omega), ← Zvi hx, w64 (by omega) (by omega), ih]
theorem ZB3 (pairs : List Zl) (hl : pairs.length ≤ 1000000000) (hv : ∀ p ∈ pairs, p.e0.vol ≤ 1000000000 ∧ p.e1.vol ≤ 1000000000) : Ze8 pairs = if pairs.all Zof = true then ZCV pairs else some ([], 1) := by
 have := Zw2 pairs hl hv pairs.length (Nat.le_refl _)
 rw [List.drop_length, List.take_length] at this
 rw [Ze8, w64 (by omega) (by omega)]
 exact this
theorem Zxe (pairs : List Zl) (hl : pairs.length ≤ 1000000000) (hv : ∀ p ∈ pairs, p.e0.vol ≤ 1000000000 ∧ p.e1.vol ≤ 1000000000) : ∀ k : Nat, k ≤ pairs.length →
  ZbN pairs (((k : Nat) : Int) - 1) (pairs.drop k).reverse = if (pairs.take k).all Zof = true then Zs [] 0 pairs.reverse else some ([], 1)
 | 0, _ => by rw [ZbN, decide_eq_false (by omega), ifF]; rfl
 | k + 1, hk => by
  have hx : pairs[k]? = some pairs[k] := List.getElem?_eq_getElem hk
  have hm := hv _ (List.mem_of_getElem? hx)
  generalize pairs[k] = x at hx hm
  rw [show ((k + 1 : Nat) : Int) - 1 = ((k : Nat) : Int) from by omega, ZbN, decide_eq_true (Int.natCast_nonneg k), ifT, ZlB, hx, Zn, ZBP _ hm.1, Zn, ZsH hx, List.all_append]
  have e1 : ([x].all Zof) = Zof x := by simp
  have ih := Zxe pairs hl hv k (by omega)
  rw [e1]; unfold Zof at ih ⊢
  cases h0 : ZoV x.e0 with
  | false => rw [Bool.false_and, Bool.and_false]; rfl
  | true =>
   show ((some x >>= fun x93 => Zcf x93.e1 >>= fun r94 => some (!r94)) >>= _) = _
   rw [Zn, ZBP _ hm.2, Zn, Zn]
   cases h1 : ZoV x.e1 with
   | false => rw [Bool.and_false, Bool.and_false]; rfl
   | true =>
    rw [Bool.true_and, Bool.and_true, Bool.not_true, ifF, Zn, Zde _ (by simp; omega), ← Zvi hx, w64 (by omega) (by omega), ih]
theorem ZF2 (pairs : List Zl) (hl : pairs.length ≤ 1000000000) (hv : ∀ p ∈ pairs, p.e0.vol ≤ 1000000000 ∧ p.e1.vol ≤ 1000000000) : ZcN pairs = if pairs.all Zof = true then Zs [] 0 pairs.reverse else some ([], 1) := by
 have := Zxe pairs hl hv pairs.length (Nat.le_refl _)
 rw [List.drop_length, List.take_length] at this
 rw [ZcN, w64 (by omega) (by omega)]
 exact this
theorem ZwV (l : List Ze) : ∀ (L A : SB) (k : Nat), A.length + L.length ≤ 1000000000 → ZcQ (A.map toB) l k (L.map toB) = some ((A ++ L).map toB)
 | [], A, k, _ => by rw [List.map_nil, ZcQ, List.append_nil]
 | p :: L, A, k, h => by
  rw [List.length_cons] at h
  have ih := ZwV l L (A ++ [p]) (k + 1) (by simp; omega)
  rw [List.map_cons, ZcQ]
  show (Zcm p.2.ty >>= _) = _
  rw [ZyB, Zn, Zde _ (by simp; omega)]
  have e : A.map toB ++ [Ze.mk (toB p).fName p.2.ty] = (A ++ [p]).map toB := by simp [toB]
  rw [e, ih, List.append_assoc]; rfl
theorem Zpb (L : SB) (h : L.length ≤ 1000000000) : Zcz (L.map toB) = some (L.map toB) := by
 have := ZwV (L.map toB) L [] 0 (by simpa using h)
 rw [Zcz]; exact this
theorem ZF6 : ∀ {pairs : List Zl}, (∀ p ∈ pairs, p.e0.vol ≤ 1048576 ∧ p.e1.vol ≤ 1048576) → pairs.all Zof = true → ∃ P : SP, P.map toP = pairs ∧ ∀ p ∈ P, p.1.good ∧ p.2.good
 | [], _, _ => ⟨[], rfl, fun p hp => absurd hp List.not_mem_nil⟩
 | ⟨x, y⟩ :: l, hv, h => by
  rw [List.all_cons, Bool.and_eq_true] at h
  have h1 := h.1
  unfold Zof at h1
  rw [Bool.and_eq_true] at h1
  have hx := hv _ (List.mem_cons_self ..)
  obtain ⟨a, rfl, ha⟩ := Zy5 hx.1 h1.1
  obtain ⟨b, rfl, hb⟩ := Zy5 hx.2 h1.2
  obtain ⟨P, rfl, hP⟩ := ZF6 (fun p hp => hv p (List.mem_cons_of_mem _ hp)) h.2
  exact ⟨(a, b) :: P, rfl, fun p hp => by
   rcases List.mem_cons.1 hp with rfl | hp
   ·exact ⟨ha, hb⟩
   ·exact hP p hp⟩
theorem ZwI {t : ST} : t.nms = true → ∀ {y : ByteArray}, t.occ y = true → Zmm y = true ∧ y.size ≤ 1048576 := by
 induction t with
 | v s => intro h y hy; simp only [ST.nms, Bool.and_eq_true, decide_eq_true_eq] at h; simp only [ST.occ, decide_eq_true_eq] at hy; subst hy; exact h
 | k s => intro h y hy; cases hy
 | a f x ihf ihx =>
  intro h y hy
  simp only [ST.nms, Bool.and_eq_true] at h
  simp only [ST.occ, Bool.or_eq_true] at hy
  exact hy.elim (ihf h.1) (ihx h.2)
def ZnT (P : SP) : List ByteArray := P.flatMap fun p => p.1.fr [] ++ p.2.fr []
theorem ZsU : ∀ P : SP, (ZnT P).length ≤ Zpn (P.map toP)
 | [] => Nat.le_refl _
 | p :: P => by
  have ih := ZsU P
  have h1 := Ztf p.1 []
  have h2 := Ztf p.2 []
  have h3 := ZoL p.1.ty
  have h4 := ZoL p.2.ty
  rw [Zko] at h3 h4
  unfold ZnT Zpn at *
  rw [List.flatMap_cons, List.map_cons, List.map_cons, List.sum_cons]
  simp only [List.length_append, List.length_nil] at *
  show _ ≤ p.1.ty.vol + p.2.ty.vol + _
  omega
theorem Zyr {P : SP} {p : ST × ST} (hp : p ∈ P) {y : ByteArray} (h : p.1.occ y = true ∨ p.2.occ y = true) : y ∈ ZnT P := by
 unfold ZnT
 rw [List.mem_flatMap]
 exact ⟨p, hp, List.mem_append.2 (h.imp (fun h => (Zmt y _ []).2 (.inr h)) (fun h => (Zmt y _ []).2 (.inr h)))⟩
theorem ZAH {P : SP} (hP : ∀ p ∈ P, p.1.good ∧ p.2.good) {y : ByteArray} (h : y ∈ ZnT P) : Zmm y = true ∧ y.size ≤ 1048576 := by
 unfold ZnT at h
 rw [List.mem_flatMap] at h
 obtain ⟨p, hp, h⟩ := h
 rcases List.mem_append.1 h with h | h
 ·exact ZwI (hP p hp).1.1 (((Zmt y _ []).1 h).resolve_left (by simp))
 ·exact ZwI (hP p hp).2.1 (((Zmt y _ []).1 h).resolve_left (by simp))
theorem Zz2 (l : List Zl) : l.length ≤ Zpn l := by
 induction l with
 | nil => exact Nat.le_refl _
 | cons p l ih =>
  unfold Zpn at *
  rw [List.map_cons, List.sum_cons, List.length_cons]
  have := Zor p.e0
  omega
theorem Zri (pairs : List Zl) (hv : Zpn pairs ≤ 1048576) : ∃ (e : Int) (L : SB), Ze8 pairs = some (L.map toB, e) ∧ ZcN pairs = some (L.map toB, e) ∧ Zgh L ∧ ZrN L ∧ L.length ≤ 1000000000 ∧
  (e = 0 → ∃ P : SP, P.map toP = pairs ∧ (∀ p ∈ P, p.1.good ∧ p.2.good) ∧ ∀ p ∈ P, p.1.sub L = p.2.sub L) := by
 have hl := Zz2 pairs
 have hm : ∀ p ∈ pairs, p.e0.vol ≤ 1048576 ∧ p.e1.vol ≤ 1048576 := fun p hp => by have := Zuu hp; omega
 rw [ZB3 pairs (by omega) (fun p hp => by have := hm p hp; omega), ZF2 pairs (by omega) (fun p hp => by have := hm p hp; omega)]
 by_cases h : pairs.all Zof = true
 ·rw [if_pos h, if_pos h]
  obtain ⟨P, rfl, hP⟩ := ZF6 hm h
  have hV := ZsU P
  have hu : unb (ZnT P) [] ≤ (ZnT P).length := List.length_filter_le _ _
  have hI : Inv (ZnT P) [] P P.length :=
   ⟨fun p hp => absurd hp List.not_mem_nil, fun p hp => absurd hp List.not_mem_nil, fun p hp => absurd hp List.not_mem_nil, hP, fun p hp y hy => Zyr hp hy, fun y hy => ZAH hP hy, ZtX (Nat.le_refl _),
    by rw [List.length_map] at hl; omega, by rw [List.length_nil]; omega⟩
  obtain ⟨e, L, s', S', h1, h2, h3, A⟩ := Zwf (ZnT P) _ _ [] P P.length rfl rfl hI
  have hs : (P.map toP).reverse = stk P := by rw [stk, List.map_reverse]
  refine ⟨e, L, ?_, ?_, A.good, A.idem, A.len, fun h0 => ⟨P, rfl, hP, A.eqs h0⟩⟩
  ·unfold ZCV
   rw [hs, ZcR]
   show (ZB (atL 0 []) (([] : SB).map toB) (stk P) >>= _) = _
   rw [h1, Zn]
   show (Zcz s'.flist >>= _) = _
   rw [h2, Zpb L A.len]; rfl
  ·rw [hs]; exact h3
 ·rw [if_neg h, if_neg h]
  exact ⟨1, [], rfl, rfl, fun p hp => absurd hp List.not_mem_nil, fun p hp => absurd hp List.not_mem_nil, by simp, fun h => by cases h⟩
theorem Zpg : Zal (Zk.mk []) (Zk.mk []) = some true := by
 rw [Zal]
 show ZaB 0 _ _ [] = _
 rw [ZaB]
theorem ZAV (s : ByteArray) : Zcs [] s = some (-1) := by
 rw [Zcs, Zcp]; rfl
theorem ZvT (t : ST) : ZaS t.ty t.ty [] [] = some true := by
 induction t with
 | v s =>
  rw [ST.ty, ZaS]
  show ((Zal (Zk.mk []) (Zk.mk []) >>= _) >>= _) = _
  rw [Zpg, Zn, Zn]
  show (Zcs [] s >>= fun r60 => Zcs [] s >>= fun r61 => _) = _
  rw [ZAV, Zn, Zn]
  show some (true && (_ || (s.toList == s.toList))) = _
  rw [Zk7, decide_eq_true rfl, Bool.or_true]; rfl
 | k s =>
  rw [ST.ty, ZaS]
  show ((Zal (Zk.mk []) (Zk.mk []) >>= _) >>= _) = _
  rw [Zpg, Zn, Zn]
  show (if (!(s.toList == s.toList)) = true then _ else ZaI [] [] _ _) = _
  rw [Zk7, decide_eq_true rfl, Bool.not_true, ifF, ZaI]
  show Z6 [] [] 0 _ _ [] = _
  rw [Z6]
 | a f x ihf ihx =>
  rw [ST.ty, ZaS]
  show ((Zal (Zk.mk []) (Zk.mk []) >>= _) >>= _) = _
  rw [Zpg, Zn, Zn]
  show (if (!((ByteArray.mk #[]).toList == (ByteArray.mk #[]).toList)) = true then _ else ZaI [] [] _ _) = _
  rw [Zk7, decide_eq_true rfl, Bool.not_true, ifF, ZaI]
  show Z6 [] [] 0 _ _ [f.ty, x.ty] = _
  rw [Z6]
  show (some f.ty >>= _) = _
  rw [Zn, ihf, Zn]
  show Z6 [] [] (0 + 1) _ _ [x.ty] = _
  rw [Z6]
  show (some x.ty >>= _) = _
  rw [Zn, ihx, Zn]
  show Z6 [] [] (0 + 1 + 1) _ _ [] = _
  rw [Z6]
theorem Zrn (t : ST) (h : t.good) : Zcc t.ty t.ty = some true := by
 rw [Zcc, ZtE t h, Zn]
 show (((some 0) >>= _) >>= _) = _
 rw [Zn, Zn]
 show ((ZaS t.ty t.ty [] [] >>= _) >>= _) = _
 rw [ZvT]; rfl
theorem ZAM (M : SB) (hM : Zgh M) : ∀ (L A : SB) (k : Nat), A ++ L = M → k = A.length → Zby (M.map toB) (M.map toB) k (L.map toB) = some true
 | [], A, k, _, _ => by rw [List.map_nil, Zby]
 | p :: L, A, k, h, hk => by
  have hp : (M.map toB)[k]? = some (toB p) := by rw [← h]; exact ZGE hk.symm p L
  have hg := hM p (by rw [← h]; simp)
  rw [List.map_cons, Zby, hp, Zn, Zk7, decide_eq_true rfl]
  show ((Zcc p.2.ty p.2.ty >>= _) >>= _) = _
  rw [Zrn p.2 hg.1, Zn, Zn]
  exact ZAM M hM L (A ++ [p]) (k + 1) (by rw [← h]; simp) (by simp [hk])
theorem ZsI (L : SB) (hL : Zgh L) : ZbL (L.map toB) (L.map toB) = some true := by
 rw [ZbL]
 have : ((((L.map toB).length : Nat) : Int) != (((L.map toB).length : Nat) : Int)) = false := by simp
 rw [this, ifF]
 exact ZAM L hL L [] 0 rfl rfl

def bA : ByteArray := ByteArray.mk #[97]
def ZnI : ByteArray := ByteArray.mk #[73, 110, 116]
def Zwx : ByteArray := ByteArray.mk #[66, 111, 111, 108]
def ZvK : ByteArray := ByteArray.mk #[91, 93]
theorem okA : Zmm bA = true ∧ bA.size ≤ 1048576 := ⟨by decide +kernel, by decide +kernel⟩
theorem gA : (ST.v bA).good := ⟨by decide +kernel, by decide +kernel⟩
theorem ZCl : (ST.k ZnI).good := ⟨by decide +kernel, by decide +kernel⟩
theorem ZGq : (ST.k Zwx).good := ⟨by decide +kernel, by decide +kernel⟩
theorem ZGy : (ST.a (.k ZvK) (.v bA)).good := ⟨by decide +kernel, by decide +kernel⟩
theorem Zui {s : ST} (h : s.good) (hn : s.nod ≤ 500) : s.ty.vol ≤ 1000000000 := by have := ZrD s h.1; omega
theorem Zws (a b : ST) (ha : a.good) (hb : b.good) (na : a.nod ≤ 500) (nb : b.nod ≤ 500) : ZbI a.ty b.ty = (ZB (atL 0 []) (([] : SB).map toB) (stk [(a, b)]) >>= fun Zps => Zcz Zps.2.1.flist >>= fun Zvd => some (Zvd, Zps.1)) := by
 rw [ZbI, ZB3 _ (by simp) (fun p hp => by rw [List.mem_singleton] at hp; subst hp; exact ⟨Zui ha na, Zui hb nb⟩)]
 have : [Zl.mk a.ty b.ty].all Zof = true := by simp [Zof, Zvg ha, Zvg hb]
 rw [if_pos this]
 show ((ZB (atL 0 []) (([] : SB).map toB) (stk [(a, b)]) >>= fun Zps => Zcz Zps.2.1.flist >>= fun Zvd => some (Zvd, Zps.1)) >>= fun r1 => some (r1.1, r1.2)) = _
 cases ZB (atL 0 []) (([] : SB).map toB) (stk [(a, b)]) with
 | none => rfl
 | some r =>
  rw [Zn]
  cases Zcz r.2.1.flist <;> rfl
theorem ZuX : Zgh [] := fun p hp => absurd hp List.not_mem_nil
theorem ex1 : ZbI (ST.v bA).ty (ST.k ZnI).ty = some ([Ze.mk bA (ST.k ZnI).ty], 0) := by
 rw [Zws _ _ gA ZCl (by decide) (by decide), Ztg [] [] _ _ (by decide)]
 show (ZiX [] (stk []) (ST.v bA).ty (ST.k ZnI).ty >>= _) = _
 rw [ZqW _ _ _ _ (fun y h => by cases h)]
 obtain ⟨s', h1, h2⟩ := ZvQ [] ZuX bA okA rfl (.k ZnI) ZCl (by decide)
 have hb : Zf8 [] bA (.k ZnI) = (0, [(bA, .k ZnI)]) := rfl
 rw [hb] at h1 h2
 rw [h1, h2 rfl, Zn]
 show (Zp 0 (atL 0 [(bA, .k ZnI)]) ([(bA, .k ZnI)].map toB) [] >>= _) = _
 rw [ZA4, ZB]
 show (Zcz ([(bA, .k ZnI)].map toB) >>= _) = _
 rw [Zpb _ (by simp)]
 rfl
theorem ex2 : ZbI (ST.v bA).ty (ST.a (.k ZvK) (.v bA)).ty = some ([], 23) := by
 rw [Zws _ _ gA ZGy (by decide) (by decide), Ztg [] [] _ _ (by decide)]
 show (ZiX [] (stk []) (ST.v bA).ty (ST.a (.k ZvK) (.v bA)).ty >>= _) = _
 rw [ZqW _ _ _ _ (fun y h => by cases h)]
 obtain ⟨s', h1, h2⟩ := ZvQ [] ZuX bA okA rfl (.a (.k ZvK) (.v bA)) ZGy (by decide)
 have hb : Zf8 [] bA (.a (.k ZvK) (.v bA)) = (23, []) := by
  unfold Zf8
  have : ((ST.a (.k ZvK) (.v bA)).sub []).occ bA = true := by simp [ST.sub, ST.occ, lk]
  rw [if_pos this]
 rw [hb] at h1
 rw [h1, Zn, ZAi 23 (by decide), Zn]
 show (Zcz (([] : SB).map toB) >>= _) = _
 rw [Zpb _ (by simp)]
 rfl
theorem ex3 : ZbI (ST.k ZnI).ty (ST.k Zwx).ty = some ([], 22) := by
 rw [Zws _ _ ZCl ZGq (by decide) (by decide), Ztg [] [] _ _ (by decide)]
 show (ZiX [] (stk []) (ST.k ZnI).ty (ST.k Zwx).ty >>= _) = _
 rw [Zvm, if_neg (by decide +kernel), ZAi 22 (by decide), Zn]
 show (Zcz (([] : SB).map toB) >>= _) = _
 rw [Zpb _ (by simp)]
 rfl
theorem ZA2 : Zau = some true := by
 unfold Zau Zdi
 rw [Zn]
 show (ZbI (ST.v bA).ty (ST.k ZnI).ty >>= _) = _
 rw [ex1, Zn, Zn]
 show (ZbI (ST.v bA).ty (ST.a (.k ZvK) (.v bA)).ty >>= _) = _
 rw [ex2, Zn, Zn, Zn]
 show (ZbI (ST.k ZnI).ty (ST.k Zwx).ty >>= _) = _
 rw [ex3, Zn]
 show (some (bA.toList == bA.toList) >>= _) = _
 rw [Zn, Zk7, decide_eq_true rfl, ifT]
 show ((some (ZnI.toList == ZnI.toList)) >>= _) = _
 rw [Zn, Zk7, decide_eq_true rfl]
 rfl
theorem ZwU (l : List Za) : ∀ (xs : List Za) (n : Int) (k : Nat), (∀ t ∈ xs, t.vol ≤ 1000000000) → ∃ b, Zbc l n k xs = some b
 | [], n, k, _ => ⟨_, by rw [Zbc]⟩
 | t :: xs, n, k, h => by
  have hB : BIG = 1000000000000 := rfl
  have ht := h t (by simp)
  have hn := ZoL t
  rw [Zbc, Zwj t (by omega), Zn, Zs9 t (by omega), Zn]
  split
  ·exact ⟨false, rfl⟩
  ·exact ZwU l xs _ _ fun u hu => h u (by simp [hu])
theorem Zq6 (l : List Za) (h : ∀ t ∈ l, t.vol ≤ 1000000000) : ∃ b, Zb9 l = some b := by
 rw [Zb9]; exact ZwU l l 0 0 h
theorem ZpW (a b : Za) (h : a.vol + b.vol ≤ 1048576) : ZbQ a b = some true := by
 obtain ⟨s, hs⟩ := Zq6 [a, b] (fun t ht => by simp at ht; rcases ht with rfl | rfl <;> omega)
 obtain ⟨e, L, h1, h2, h3, h4, h5, h6⟩ := Zri [Zl.mk a b] (by simp [Zpn]; exact h)
 unfold ZbQ
 rw [hs, Zn, ZA2]
 cases s with
 | false => rfl
 | true =>
  rw [Bool.not_true, ifF, ZbI, h1, Zn, Zn, ZdR, h2, Zn, Zn]
  have : ((L.map toB, e).2 == (L.map toB, e).2) = true := by simp
  show ((if (e == e) = true then ZbL (L.map toB) (L.map toB) >>= fun r9 => some r9 else some false) >>= _) = _
  rw [show (e == e) = true from by simp, ifT, ZsI L h3]
  rfl
theorem Zyo (pairs : List Zl) (h : Zpn pairs ≤ 1048576) : ∀ (d i : Nat) (l : List Za), pairs.length - i = d → i ≤ 31 → l.length ≤ 2 * i → (∀ t ∈ l, t.vol ≤ 1000000000) → ZaD pairs l i = some true := by
 have hend : ∀ (l : List Za), (∀ t ∈ l, t.vol ≤ 1000000000) → ((if (decide (((pairs.length : Nat) : Int) > 30)) = true then some true else Zb9 l >>= fun r72 => some (!r72)) >>= fun c73 =>
   if c73 = true then Zau >>= fun r76 => some r76
   else Ze8 pairs >>= fun r77 => ZcN pairs >>= fun r78 => (if (r77.2 == r78.2) = true then ZbL r77.1 r78.1 >>= fun r79 => some r79 else some false) >>= fun c80 => (if c80 = true then Zau >>= fun r81 => some r81 else some false) >>= fun c82 => some c82) = some true := fun l hl => by
  obtain ⟨s, hs⟩ := Zq6 l hl
  obtain ⟨e, L, h1, h2, h3, h4, h5, h6⟩ := Zri pairs h
  rw [hs, ZA2, h1, h2]
  have hm : ((some (L.map toB, e)) >>= fun r77 => (some (L.map toB, e)) >>= fun r78 => (if (r77.2 == r78.2) = true then ZbL r77.1 r78.1 >>= fun r79 => some r79 else some false) >>= fun c80 => (if c80 = true then (some true >>= fun r81 => some r81) else some false) >>= fun c82 => some c82) = some true := by
   rw [Zn, Zn]
   show ((if (e == e) = true then ZbL (L.map toB) (L.map toB) >>= fun r9 => some r9 else some false) >>= _) = _
   rw [show (e == e) = true from by simp, ifT, ZsI L h3]
   rfl
  cases decide (((pairs.length : Nat) : Int) > 30) with
  | true => rfl
  | false =>
   cases s with
   | false => rfl
   | true => exact hm
 intro d
 induction d with
 | zero =>
  intro i l hd hi hl hv
  rw [ZaD, decide_eq_false (by omega)]
  exact hend l hv
 | succ d ih =>
  intro i l hd hi hl hv
  rw [ZaD]
  by_cases h31 : i < 31
  ·have hk : i < pairs.length := by omega
   have hx : pairs[i]? = some pairs[i] := List.getElem?_eq_getElem hk
   have hm := Zuu (List.mem_of_getElem? hx)
   generalize pairs[i] = x at hx hm
   rw [decide_eq_true (show ((i : Nat) : Int) < ((pairs.length : Nat) : Int) by omega), decide_eq_true (show ((i : Nat) : Int) < 31 by omega)]
   show (pairs[i]? >>= _) = _
   rw [hx, Zn, Zn, Zde _ (by simp; omega), Zde _ (by omega)]
   refine ih (i + 1) _ (by omega) (by omega) (by simp; omega) fun t ht => ?_
   rcases List.mem_append.1 ht with ht | ht
   ·exact hv t ht
   ·simp at ht; rcases ht with rfl | rfl <;> omega
  ·rw [decide_eq_false (show ¬ ((i : Nat) : Int) < 31 by omega), Bool.and_false]
   exact hend l hv
theorem ZuY (pairs : List Zl) (h : Zpn pairs ≤ 1048576) : ZcB pairs = some true := by
 rw [ZcB]
 exact Zyo pairs h _ 0 [] rfl (by omega) (by simp) (fun t ht => absurd ht List.not_mem_nil)
theorem Zxm {x : ByteArray} : ∀ {L : SB}, lk x L = none → ∀ p ∈ L, p.1 ≠ x
 | q :: L, h, p, hp => by
  rw [lk] at h
  by_cases e : q.1 = x
  ·rw [if_pos e] at h; cases h
  ·rw [if_neg e] at h
   rcases List.mem_cons.1 hp with rfl | hp
   ·exact e
   ·exact Zxm h p hp
theorem ZsY (r : List Ze × Int) (i : Nat) (v : ByteArray) (fr : List ByteArray) (x : Nat) : ∀ (L : SB) (k : Nat), (∀ p ∈ L, p.1 ≠ v) → Z0 r i v k fr x (L.map toB) = ZZ r i fr (x + 1)
 | [], k, _ => by rw [List.map_nil, Z0]
 | p :: L, k, h => by
  rw [List.map_cons, Z0, Zk7]
  show (if decide (p.1 = v) = true then _ else _) = _
  rw [decide_eq_false (h p (by simp)), ifF]
  exact ZsY r i v fr x L (k + 1) fun q hq => h q (by simp [hq])
theorem Zyj (L : SB) (e : Int) (i : Nat) (fr : List ByteArray) (h : ∀ v ∈ fr, ∀ p ∈ L, p.1 ≠ v) : ∀ (d x : Nat), fr.length - x = d → ZZ (L.map toB, e) i fr x = ZU (L.map toB, e) (i + 1) := by
 intro d
 induction d with
 | zero => intro x hd; rw [ZZ, decide_eq_false (by omega), ifF]
 | succ d ih =>
  intro x hd
  have hk : x < fr.length := by omega
  rw [ZZ, decide_eq_true (by omega), ifT, List.getElem?_eq_getElem hk, Zn]
  show Z0 _ i fr[x] 0 fr x (L.map toB) = _
  rw [ZsY _ _ _ _ _ L 0 (h _ (List.getElem_mem hk))]
  exact ih (x + 1) (by omega)
theorem Zsv (L : SB) (hL : Zgh L) (hI : ZrN L) (e : Int) : ∀ (d i : Nat), L.length - i = d → ZU (L.map toB, e) i = some true := by
 intro d
 induction d with
 | zero =>
  intro i hd
  rw [ZU, decide_eq_false (by simp; omega), ifF, ZA2]; rfl
 | succ d ih =>
  intro i hd
  have hk : i < L.length := by omega
  have hx : L[i]? = some L[i] := List.getElem?_eq_getElem hk
  have hm := List.mem_of_getElem? hx
  generalize L[i] = p at hx hm
  rw [ZU, decide_eq_true (by simp; omega), ifT]
  show ((L.map toB)[i]? >>= _) = _
  rw [List.getElem?_map, hx]
  show (Zdr p.2.ty >>= _) = _
  rw [ZDT p.2 (hL p hm).1, Zn, Zyj L e i _ (fun v hv => Zxm (hI p hm v (((Zmt v _ []).1 hv).resolve_left (by simp)))) _ 0 rfl]
  exact ih (i + 1) (by omega)
theorem Zp2 (a b : Za) (h : a.vol + b.vol ≤ 1048576) : ZbR a b = some true := by
 obtain ⟨s, hs⟩ := Zq6 [a, b] (fun t ht => by simp at ht; rcases ht with rfl | rfl <;> omega)
 obtain ⟨e, L, h1, h2, h3, h4, h5, h6⟩ := Zri [Zl.mk a b] (by simp [Zpn]; exact h)
 unfold ZbR
 rw [ZbI, h1, Zn, Zn, hs, Zn, ZA2]
 by_cases he : e = 0
 ·obtain ⟨P, hP, hg, heq⟩ := h6 he
  subst he
  match P, hP, hg, heq with
  | [p], hP, hg, heq =>
   rw [List.map_cons, List.map_nil, List.cons.injEq] at hP
   have hp := hP.1
   unfold toP at hp
   rw [Zl.mk.injEq] at hp
   obtain ⟨rfl, rfl⟩ := hp
   have hg := hg p (by simp)
   have heq := heq p (by simp)
   have hr : Zin L p.1 = Zin L p.2 := by unfold Zin; rw [heq]
   cases s with
   | false => rfl
   | true =>
    show (Za2 (L.map toB) p.1.ty >>= _) = _
    rw [Zw8 L h3 p.1 hg.1, Zn]
    show (Za2 (L.map toB) p.2.ty >>= _) = _
    rw [Zw8 L h3 p.2 hg.2, Zn, ← hr]
    have ho : ((Zin L p.1).fOp != 0) = !(p.1.sub L).big := by rw [bne, Zo6]
    rw [ho]
    cases hb : (p.1.sub L).big with
    | true => exact Zsv L h3 h4 0 _ 0 rfl
    | false =>
     have hs : Zin L p.1 = (p.1.sub L).ty := by unfold Zin; rw [hb, ifF]
     show ((Zcc (Zin L p.1) (Zin L p.1) >>= _) >>= _) = _
     rw [hs, Zrn _ ⟨ZoW h3 p.1 hg.1.1, hb⟩, Zn, Zn]
     exact Zsv L h3 h4 0 _ 0 rfl
 ·have h1 : (e == 0) = false := by rw [beq_eq_false_iff_ne]; exact he
  have h2 : (e != 0) = true := by rw [bne, h1]; rfl
  show (if (!s || (e != 0)) = true then _ else _) = _
  rw [h2, Bool.or_true, ifT]; rfl
#print axioms ZpW
#print axioms ZuY
#print axioms Zp2

theorem Znt {t : Nat} {k : TK} {es : List E} (hk : (tab.ti t).k = k) (h1 : ∀ fs, k ≠ .struct fs) (h2 : ∀ e, k ≠ .slice e) : (t = 25 → ∃ v : Zk, es = v.cells) ∧ (t = 23 → ∃ l : List Zk, es = [.sl (l.map Zk.cells)]) :=
 ⟨fun ht => by subst ht; exact absurd hk.symm (h1 _), fun ht => by subst ht; exact absurd hk.symm (h2 _)⟩
theorem Zz6 {t : Nat} {es : List E} (h : Sh tab t es) : (t = 25 → ∃ v : Zk, es = v.cells) ∧ (t = 23 → ∃ l : List Zk, es = [.sl (l.map Zk.cells)]) := by
 induction h with
 | bool t b h => exact Znt h (by simp) (by simp)
 | int t k n h hn => exact Znt h (by simp) (by simp)
 | string t s h hs => exact Znt h (by simp) (by simp)
 | array t n e parts h hl hf => exact Znt h (by simp) (by simp)
 | slice t e rows h hl hr ih =>
  refine ⟨fun ht => (by subst ht; cases h), fun ht => ?_⟩
  subst ht
  have he : e = 25 := by injection h with h; exact h.symm
  subst he
  obtain ⟨l, rfl⟩ := Zpd (f := Zk.cells) rows fun row hm => by
   obtain ⟨i, hi, rfl⟩ := List.mem_iff_getElem.1 hm
   exact (ih i _ (List.getElem?_eq_getElem hi)).1 rfl
  exact ⟨l, rfl⟩
 | struct t fs parts h hl hf ih =>
  refine ⟨fun ht => ?_, fun ht => (by subst ht; cases h)⟩
  subst ht
  have he : fs = [(23, 0)] := by injection h with h; exact h.symm
  subst he
  obtain ⟨a, rfl⟩ := ZGU hl
  obtain ⟨l, rfl⟩ := (ih 0 23 0 a rfl rfl).2 rfl
  exact ⟨.mk l, by rw [Zk.cells_eq]; rfl⟩
theorem ZBg {es : List E} (h : Sh tab 25 es) : ∃ v : Zk, es = v.cells := (Zz6 h).1 rfl
theorem Znr {t : Nat} {k : TK} {es : List E} (hk : (tab.ti t).k = k) (h1 : ∀ fs, k ≠ .struct fs) (h2 : ∀ e, k ≠ .slice e) : (t = 28 → ∃ v : Za, es = v.cells) ∧ (t = 26 → ∃ l : List Za, es = [.sl (l.map Za.cells)]) :=
 ⟨fun ht => by subst ht; exact absurd hk.symm (h1 _), fun ht => by subst ht; exact absurd hk.symm (h2 _)⟩
theorem Zyz {t : Nat} {es : List E} (h : Sh tab t es) : (t = 28 → ∃ v : Za, es = v.cells) ∧ (t = 26 → ∃ l : List Za, es = [.sl (l.map Za.cells)]) := by
 induction h with
 | bool t b h => exact Znr h (by simp) (by simp)
 | int t k n h hn => exact Znr h (by simp) (by simp)
 | string t s h hs => exact Znr h (by simp) (by simp)
 | array t n e parts h hl hf => exact Znr h (by simp) (by simp)
 | slice t e rows h hl hr ih =>
  refine ⟨fun ht => (by subst ht; cases h), fun ht => ?_⟩
  subst ht
  have he : e = 28 := by injection h with h; exact h.symm
  subst he
  obtain ⟨l, rfl⟩ := Zpd (f := Za.cells) rows fun row hm => by
   obtain ⟨i, hi, rfl⟩ := List.mem_iff_getElem.1 hm
   exact (ih i _ (List.getElem?_eq_getElem hi)).1 rfl
  exact ⟨l, rfl⟩
 | struct t fs parts h hl hf ih =>
  refine ⟨fun ht => ?_, fun ht => (by subst ht; cases h)⟩
  subst ht
  have he : fs = [(22, 0), (9, 1), (25, 2), (26, 3)] := by injection h with h; exact h.symm
  subst he
  obtain ⟨a, b, c, d, rfl⟩ := ZIP hl
  obtain ⟨op, rfl, _⟩ := ZCr (hf 0 22 0 a rfl rfl) (k := .i64) rfl
  obtain ⟨name, rfl, _⟩ := Zx9 (hf 1 9 1 b rfl rfl) rfl
  obtain ⟨bd, rfl⟩ := ZBg (hf 2 25 2 c rfl rfl)
  obtain ⟨kids, rfl⟩ := (ih 3 26 3 d rfl rfl).2 rfl
  exact ⟨.mk op name bd kids, by rw [Za.cells_eq, Zk.cells_eq]; rfl⟩
theorem Znq {es : List E} (h : Sh tab 28 es) : ∃ v : Za, es = v.cells := (Zyz h).1 rfl
theorem ZBs {es : List E} (h : Sh tab 38 es) : ∃ p : Zl, es = p.cells := by
 obtain ⟨parts, rfl, hl, hf⟩ := Zz7 h (n := 2) (e := 28) rfl
 obtain ⟨a, b, rfl⟩ := ZIK hl
 obtain ⟨x, rfl⟩ := Znq (hf 0 a rfl)
 obtain ⟨y, rfl⟩ := Znq (hf 1 b rfl)
 exact ⟨⟨x, y⟩, by rw [Zl.cells_eq, Za.cells_eq, Za.cells_eq]; rfl⟩
theorem ZAJ {e : E} (h : Sh tab 37 [e]) : ∃ l : List Zl, e = .sl (l.map Zl.cells) := by
 obtain ⟨rows, h1, _, hr⟩ := ZAp h (e := 38) rfl
 obtain ⟨l, rfl⟩ := Zpd (f := Zl.cells) rows fun row hm => ZBs (hr row hm)
 injection h1 with h1
 exact ⟨l, h1⟩
theorem ZxU (k : Zk) : k.nod ≤ Zcu k.cells := by
 refine Zk.ind (M := fun k => k.nod ≤ Zcu k.cells) (fun v ih => ?_) k
 have key : ∀ l : List Zk, (∀ x ∈ l, x.nod ≤ Zcu x.cells) → Zk.nods l ≤ Zht (l.map Zk.cells) := by
  intro l
  induction l with
  | nil => intro _; rw [Zk.nods]; exact Nat.zero_le _
  | cons x l ih2 =>
   intro h
   rw [Zg3, List.map_cons, Zht]
   have h1 := h x (by simp)
   have h2 := ih2 fun y hy => h y (by simp [hy])
   omega
 have h1 := key _ ih
 rw [ZlC, Zk.cells_eq]
 simp only [Zcu, ZoC]
 omega
theorem ZrU : ∀ l : List Zk, Zk.nods l ≤ Zht (l.map Zk.cells)
 | [] => by rw [Zk.nods]; exact Nat.zero_le _
 | x :: l => by
  rw [Zg3, List.map_cons, Zht]
  have h1 := ZxU x
  have h2 := ZrU l
  omega
theorem Zjn (t : Za) : t.vol ≤ Zcu t.cells := by
 refine Za.ind (M := fun t => t.vol ≤ Zcu t.cells) (fun v ih => ?_) t
 have key : ∀ l : List Za, (∀ x ∈ l, x.vol ≤ Zcu x.cells) → Za.vols l ≤ Zht (l.map Za.cells) := by
  intro l
  induction l with
  | nil => intro _; rw [Za.vols]; exact Nat.zero_le _
  | cons x l ih2 =>
   intro h
   rw [Zjp, List.map_cons, Zht]
   have h1 := h x (by simp)
   have h2 := ih2 fun y hy => h y (by simp [hy])
   omega
 have h1 := key _ ih
 have h2 := ZrU v.fBound.fArgs
 rw [Zor, Za.cells_eq, ZlC]
 simp only [Zcu, ZoC]
 omega
theorem ZqE : ∀ l : List Zl, Zpn l ≤ Zht (l.map Zl.cells)
 | [] => Nat.zero_le _
 | p :: l => by
  have h1 := Zjn p.e0
  have h2 := Zjn p.e1
  have h3 := ZqE l
  have e : p.cells = p.e0.cells ++ p.e1.cells := by rw [Zl.cells_eq, Za.cells_eq, Za.cells_eq]; rfl
  rw [List.map_cons, Zht, e, Zir]
  unfold Zpn at *
  rw [List.map_cons, List.sum_cons]
  omega

theorem ZsD {W : World} (h : Lib.TabIs Tryz.prog W "internal/strconv.uint64pow10" .u64 Lib.pow10Tab) : ∀ x ∈ Zow, old W x.1 x.2.1 ∧ x.2.2 (W.cell? ⟨x.1, x.2.1, none⟩) := by
 have hg : Tryz.prog.globalNamed "internal/strconv.uint64pow10" = some 3 := by kernel_rfl
 unfold Lib.TabIs World.var? at h
 rw [hg] at h
 simp only [Option.bind_some] at h
 split at h
 case h_2 => cases h
 rename_i cs t f hc
 injection h with h
 have hlt : 3 < W.heap.size := by
  rcases Nat.lt_or_ge 3 W.heap.size with h1 | h1
  ·exact h1
  ·rw [Array.getElem?_eq_none h1] at hc; cases hc
 have hcell : ∀ i, W.cell? ⟨3, i, none⟩ = (Lib.pow10Tab[i]?).map fun z => Value.int .u64 z := fun i => by
  have e0 : ((Lib.pow10Tab.map fun z => Value.int .u64 z).toArray)[i]? = (Lib.pow10Tab.map fun z => Value.int .u64 z)[i]? := List.getElem?_toArray
  simp only [World.cell?, hc, Option.isSome_none, Bool.false_eq_true, if_false, h]
  rw [e0, List.getElem?_map]
 intro x hx
 rcases List.mem_cons.1 hx with rfl | hx
 ·refine ⟨hlt, ?_⟩
  show ZrQ (W.cell? ⟨3, 20, none⟩)
  rw [hcell]; rfl
 ·obtain ⟨i, hi, rfl⟩ := List.mem_map.1 hx
  have hi := List.mem_range.1 hi
  refine ⟨hlt, ?_⟩
  show Ztq i (W.cell? ⟨3, i, none⟩)
  rw [hcell, Lib.pow10Tab, List.getElem?_map, List.getElem?_range hi]
  rfl
theorem tab_third {W : World} {a b : String × DataW Unit} {r : List (String × DataW Unit)} (h : laidMet Tryz.prog (a :: b :: ("internal/strconv.uint64pow10", Lib.tabData .u64 Lib.pow10Tab) :: r) W) : Lib.TabIs Tryz.prog W "internal/strconv.uint64pow10" .u64 Lib.pow10Tab :=
 Lib.tabIs_of_head (g := 3) (t := 154) (e := 139) (n := 20) (by kernel_rfl) (by kernel_rfl) (by kernel_rfl) (by kernel_rfl) (by kernel_rfl) (by kernel_rfl) h.tail.tail
theorem globs0 {W : World} (h : Lib.TabIs Tryz.prog W "internal/strconv.uint64pow10" .u64 Lib.pow10Tab) (hr : Zd5 = []) : ZkR Tryz.prog W (old W) := fun x hx => ZsD h x (by
 have hx : x ∈ Zow ++ Zd5 := hx
 rwa [hr, List.append_nil] at hx)

theorem Zv0 {P : Program} {W : World} {sp : Nat → Bool} {fuel t : Nat} {ms : Array (String × TypeId)} {nm : String} {d : DataW Unit} {p : List MemPlace} (hi : P.underlying t = some (.interface ms)) :
  ∀ cs : List Value, DataW.trod (fun _ => ()) P W 0 sp false fuel t cs = some (.iface nm d, p) → ∃ u v, cs = [.iface u v] := by
 intro cs h
 cases fuel with
 | zero => simp [DataW.trod] at h
 | succ fuel =>
  unfold DataW.trod at h
  rw [hi] at h
  split at h <;> first | (cases h; done) | (simp at h; done) | exact ⟨_, _, rfl⟩ | simp_all
theorem ZuQ {P : Program} {n nm : String} {d : DataW Unit} {r : List (String × DataW Unit)} {W : World} {g ti : Nat} {ms : Array (String × TypeId)} (h : laidMet P ((n, .iface nm d) :: r) W) (hg : P.globalNamed n = some g)
  (ht : (P.globals[g]?).map (·.type) = some ti) (hi : P.underlying ti = some (.interface ms)) : ∃ u v, W.cell? ⟨g, 0, none⟩ = some (.iface u v) := by
 obtain ⟨ps, ⟨g', t, cs, fuel, p, q, h1, h2, h3, h4, h5, h6⟩, hn, hc⟩ := h
 obtain rfl := Option.some.inj (hg.symm.trans h1)
 obtain rfl := Option.some.inj (ht.symm.trans h2)
 obtain ⟨u, v, hcs⟩ := Zv0 hi cs.toList h4
 have := World.var?_cell hg h3 0
 refine ⟨u, v, ?_⟩
 rw [this, ← Array.getElem?_toList, hcs]; rfl
theorem Zrb {W : World} {g : Nat} {v : Value} (h : W.cell? ⟨g, 0, none⟩ = some v) : g < W.heap.size := by
 unfold World.cell? at h
 rcases Nat.lt_or_ge g W.heap.size with h1 | h1
 ·exact h1
 ·simp only [Array.getElem?_eq_none h1] at h; cases h
theorem globs_full {W : World} {a b c : String × DataW Unit} {n1 n2 : String} {d1 d2 : DataW Unit} {r : List (String × DataW Unit)} (h : Lib.TabIs Tryz.prog W "internal/strconv.uint64pow10" .u64 Lib.pow10Tab) (hS : W.ShapedOpen Tryz.prog)
  (hL : laidMet Tryz.prog (a :: b :: c :: ("strconv.ErrRange", .iface n1 d1) :: ("strconv.ErrSyntax", .iface n2 d2) :: r) W) : ZkR Tryz.prog W (old W) := fun x hx => by
 have hx : x ∈ Zow ++ Zd5 := hx
 rcases List.mem_append.1 hx with hx | hx
 ·exact ZsD h x hx
 ·unfold Zd5 at hx
  simp only [List.mem_cons, List.not_mem_nil, or_false] at hx
  rcases hx with rfl | rfl | rfl
  ·obtain ⟨m, hm⟩ := cell_of_shapedOpen_int (zero := #[.int .i64 0]) (t := 3) hS (of_decide_eq_true (by kernel_rfl)) (by kernel_rfl) rfl (by kernel_rfl) (by kernel_rfl) Tryz.underlying3
   exact ⟨Zrb hm, m, hm⟩
  ·obtain ⟨u, v, he⟩ := ZuQ (g := 1) (ti := 114) hL.tail.tail.tail.tail (by kernel_rfl) (by kernel_rfl) Tryz.underlying114
   exact ⟨Zrb he, _, he, .inr ⟨u, v, rfl⟩⟩
  ·obtain ⟨u, v, he⟩ := ZuQ (g := 2) (ti := 114) hL.tail.tail.tail (by kernel_rfl) (by kernel_rfl) Tryz.underlying114
   exact ⟨Zrb he, _, he, .inr ⟨u, v, rfl⟩⟩

mutual
theorem Zqs {H : Type} : ∀ d : DataW H, Rows.uptoBulk d = ZiB d
 | .lit l => by cases l <;> simp [Rows.uptoBulk, ZiB]
 | .nil => by simp [Rows.uptoBulk, ZiB]
 | .ptr d => by simp [Rows.uptoBulk, ZiB, Zqs d]
 | .slice es sp => by simp [Rows.uptoBulk, ZiB, ZmM es, ZmM sp]
 | .agg ps => by simp [Rows.uptoBulk, ZiB, ZmM ps]
 | .iface _ d => by simp [Rows.uptoBulk, ZiB, Zqs d]
 | .map es => by simp [Rows.uptoBulk, ZiB, ZsT es]
 | .held _ => by simp [Rows.uptoBulk, ZiB]
theorem ZmM {H : Type} : ∀ l : List (DataW H), Rows.uptoBulkAll l = bulks l
 | [] => by simp [Rows.uptoBulkAll, bulks]
 | d :: l => by simp [Rows.uptoBulkAll, bulks, Zqs d, ZmM l]
theorem ZsT {H : Type} : ∀ l : List (Lit × DataW H), Rows.uptoBulkEntries l = Zq8 l
 | [] => by simp [Rows.uptoBulkEntries, Zq8]
 | x :: l => by simp [Rows.uptoBulkEntries, Zq8, ZyS x, ZsT l]
theorem ZyS {H : Type} : ∀ x : Lit × DataW H, Rows.uptoBulkEntry x = Zzp x
 | (l, d) => by cases l <;> simp [Rows.uptoBulkEntry, Zzp, Zqs d]
end
theorem upto_bulks {H : Type} {ds : List (DataW H)} (h : Rows.uptoSmall H ds = true) : bulks ds ≤ 1048576 := by
 have h := of_decide_eq_true h
 rwa [ZmM] at h

theorem unifyResult_true {a b : List E} (ha : Sh tab 28 a) (hb : Sh tab 28 b) (hB : Zcu a + Zcu b ≤ 1048576) : CallsA Tryz.prog 3 [.agg a, .agg b] (fun r => r = .c none (.v (.bool true))) := by
 obtain ⟨a, rfl⟩ := Znq ha
 obtain ⟨b, rfl⟩ := Znq hb
 have h1 := Zjn a
 have h2 := Zjn b
 have h := ZjZ a b true (ZpW a b (by omega))
 unfold ZbQ.M at h
 rw [Za.cells_eq, Za.cells_eq]
 exact Zj.mono h fun d b h => h.1

theorem unifyAll_true {a : E} (ha : Sh tab 37 [a]) (hB : Zcu [a] ≤ 1048576) : CallsA Tryz.prog 4 [.c none a] (fun r => r = .c none (.v (.bool true))) := by
 obtain ⟨l, rfl⟩ := ZAJ ha
 have h1 := ZqE l
 simp only [Zcu, ZoC] at hB
 have h := ZlH l true (ZuY l (by omega))
 unfold ZcB.M at h
 exact Zj.mono h fun d b h => h.1

theorem unifySolves_true {a b : List E} (ha : Sh tab 28 a) (hb : Sh tab 28 b) (hB : Zcu a + Zcu b ≤ 1048576) : CallsA Tryz.prog 5 [.agg a, .agg b] (fun r => r = .c none (.v (.bool true))) := by
 obtain ⟨a, rfl⟩ := Znq ha
 obtain ⟨b, rfl⟩ := Znq hb
 have h1 := Zjn a
 have h2 := Zjn b
 have h := Zj2 a b true (Zp2 a b (by omega))
 unfold ZbR.M at h
 rw [Za.cells_eq, Za.cells_eq]
 exact Zj.mono h fun d b h => h.1



end Go.Proofs.YtgbglhbdjambbaaGreatDoor
