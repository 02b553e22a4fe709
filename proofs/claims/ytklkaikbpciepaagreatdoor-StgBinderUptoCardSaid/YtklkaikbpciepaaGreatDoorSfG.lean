/- Part 7 of the proof: the program's functions as Lean functions with their walks, and the plain law. It holds for every input, without conditions. -/
import Derived.Lib.LaidTab
import Derived.Lib.ItoaNum
import Derived.KernelRfl
import Derived.Stop.LaidErr
import Derived.Test.YtklkaikbpciepaaGreatDoorRows
import Derived.Test.YtklkaikbpciepaaGreatDoorSfA
import Derived.Test.YtklkaikbpciepaaGreatDoorSfB
import Derived.Test.YtklkaikbpciepaaGreatDoorSfC
import Derived.Test.YtklkaikbpciepaaGreatDoorSfD
import Derived.Test.YtklkaikbpciepaaGreatDoorSfE
import Derived.Test.YtklkaikbpciepaaGreatDoorSfF
set_option linter.unusedVariables false
set_option linter.unusedSimpArgs false
set_option maxRecDepth 100000
set_option maxHeartbeats 4000000
set_option synthInstance.maxHeartbeats 1000000
set_option synthInstance.maxSize 1000
namespace Go.Proofs.YtklkaikbpciepaaGreatDoor
open Go Go.Am
def Zbf : Option (Bool) :=
 ZfT (ByteArray.mk #[40, 32, 112, 114, 111, 103, 114, 97, 109, 32, 40, 32, 40, 32, 84, 114, 117, 101, 32, 49, 32, 48, 32, 41, 32, 41, 32, 40, 32, 116, 104, 117, 110, 107, 32, 77, 46, 120, 32, 40, 32, 41, 32, 40, 32, 99, 111, 110, 32, 84, 114, 117, 101, 32, 41, 32, 41, 32, 41]) >>= fun r1 =>
 Zet (Zo.mk 2 (ByteArray.mk #[102]) ([(Zq.mk 1 (ByteArray.mk #[120]) 0), (Zq.mk 1 (ByteArray.mk #[102]) 0)]) false ([] : List Zc) ([] : List Zo) ([] : List Zi)) >>= fun r2 =>
 (if ((r1.2.fCode == 0) && ((r1.2.fName.toList == (ByteArray.mk #[]).toList) && ((r1.2.fLine == 0) && ((r1.2.fCol == 0) && true)))) = true then ZeH r1.1 >>= fun r3 =>
 some (r3.toList == (ByteArray.mk #[40, 32, 112, 114, 111, 103, 114, 97, 109, 32, 40, 32, 40, 32, 84, 114, 117, 101, 32, 49, 32, 48, 32, 41, 32, 41, 32, 40, 32, 116, 104, 117, 110, 107, 32, 77, 46, 120, 32, 40, 32, 41, 32, 40, 32, 99, 111, 110, 32, 84, 114, 117, 101, 32, 41, 32, 41, 32, 41]).toList) else some false) >>= fun c4 =>
 (if (c4 && (((r2.length : Nat) : Int) == 2)) = true then (ixI r2 0) >>= fun x6 =>
 some (x6.toList == (ByteArray.mk #[102]).toList) else some false) >>= fun c7 =>
 (if c7 = true then (ixI r2 1) >>= fun x8 =>
 some (x8.toList == (ByteArray.mk #[120]).toList) else some false) >>= fun c9 =>
 (if c9 = true then ZaV (Zo.mk 2 (ByteArray.mk #[102]) ([(Zq.mk 1 (ByteArray.mk #[120]) 0), (Zq.mk 1 (ByteArray.mk #[102]) 0)]) false ([] : List Zc) ([] : List Zo) ([] : List Zi)) >>= fun r10 =>
 some (r10 == 3) else some false) >>= fun c11 =>
 some c11
def Zbf.M (r : Bool) : Prop :=
 Zn Tryz.prog 10 [] [] (fun d b => d = .c none (.v (.bool r)) ∧ b = [])
theorem Zeh (r : Bool) (hF : Zbf = some r) : Zbf.M r := by
 unfold Zbf at hF
 unfold Zbf.M
 refine en Tryz.func10 ?_
 refine AWP.seq ?_
 refine ns ?_
 refine AWP.seq ?_
 refine ns ?_
 refine AWP.seq ?_
 obtain ⟨r1, hr1, hF⟩ := bind_some hF
 refine ns ?_
 refine e3 ?_
 refine st ?_
 refine cm (Zn.weak (rn []) (Zq9 (ByteArray.mk #[40, 32, 112, 114, 111, 103, 114, 97, 109, 32, 40, 32, 40, 32, 84, 114, 117, 101, 32, 49, 32, 48, 32, 41, 32, 41, 32, 40, 32, 116, 104, 117, 110, 107, 32, 77, 46, 120, 32, 40, 32, 41, 32, 40, 32, 99, 111, 110, 32, 84, 114, 117, 101, 32, 41, 32, 41, 32, 41]) _ hr1) rfl (WS.mk (tc Ze) Zf)) ?_
 refine st ?_
 refine AWP.seq ?_
 refine ns ?_
 refine Exists.intro _ (And.intro (ZE (f := Zq.cells) (Zkp (Zq.cells_eq (Zq.mk 1 (ByteArray.mk #[120]) 0)) (lc (lc (lc Zr)))) (ZE (f := Zq.cells) (Zkp (Zq.cells_eq (Zq.mk 1 (ByteArray.mk #[102]) 0)) (lc (lc (lc Zr)))) (Zx (f := Zq.cells)))) ?_)
 refine st ?_
 refine AWP.seq ?_
 obtain ⟨r2, hr2, hF⟩ := bind_some hF
 refine ns ?_
 refine e3 ?_
 refine st ?_
 refine cm (Zn.weak (rn []) (ZiR (Zo.mk 2 (ByteArray.mk #[102]) ([(Zq.mk 1 (ByteArray.mk #[120]) 0), (Zq.mk 1 (ByteArray.mk #[102]) 0)]) false ([] : List Zc) ([] : List Zo) ([] : List Zi)) _ hr2) rfl (WS.mk (Zj (ZaM (lc (lc (lc (lc (ZdO WE.nil (ZdO WE.nil (ZdO WE.nil Zr)))))))) Ze) Zf)) ?_
 refine st ?_
 refine AWP.seq ?_
 obtain ⟨c4, hc4, hF⟩ := bind_some hF
 obtain ⟨c7, hc7, hF⟩ := bind_some hF
 obtain ⟨c9, hc9, hF⟩ := bind_some hF
 obtain ⟨c11, ZeF, hF⟩ := bind_some hF
 refine AWP.cutN (fun T => ∃ r, WS r T ⟨[(0, .c none (.v (.bool c11)))], []⟩) ?_ (fun T hw => ?_)
 ·refine ns ?_
  refine ZA true (fun Zck => ?_) (fun Zck => ?_)
  ·have hc4 := Zmh (by first | assumption | exact Eq.refl _ | (simp only [Zck, Bool.and_true, Bool.true_and, Bool.and_false, Bool.false_and, Bool.or_true, Bool.true_or, Bool.or_false, Bool.false_or, Bool.not_true, Bool.not_false, cond_true, cond_false, List.length_map]; done) | ((try simp only [Bool.and_true, Bool.true_and, Bool.and_false, Bool.false_and, Bool.or_true, Bool.true_or, Bool.or_false, Bool.false_or, Bool.not_true, Bool.not_false, cond_true, cond_false, List.length_map] at Zck); (try simp only [Bool.and_true, Bool.true_and, Bool.and_false, Bool.false_and, Bool.or_true, Bool.true_or, Bool.or_false, Bool.false_or, Bool.not_true, Bool.not_false, cond_true, cond_false, List.length_map]); simp only [Zck, Bool.and_true, Bool.true_and, Bool.and_false, Bool.false_and, Bool.or_true, Bool.true_or, Bool.or_false, Bool.false_or, Bool.not_true, Bool.not_false, cond_true, cond_false, List.length_map])) hc4
   obtain ⟨r3, hr3, hc4⟩ := bind_some hc4
   (conv => whnf)
   refine st ?_
   refine e3 ?_
   refine st ?_
   refine cm (Zn.weak (rn []) (ZmQ r1.1 _ hr3) rfl (WS.mk (Zj (ZaM (lc (lc Zr))) Ze) Zf)) ?_
   refine st ?_
   obtain rfl := Zs hc4
   refine st ?_
   refine ZA true (fun ZdK => ?_) (fun ZdK => ?_)
   ·(conv => whnf)
    refine st ?_
    intro hlen5
    (try rw [List.length_map] at hlen5)
    (try rw [List.length_map])
    refine st ?_
    refine ZA true (fun ZeP => ?_) (fun ZeP => ?_)
    ·have hc7 := Zmh (by first | assumption | exact Eq.refl _ | (simp only [Zck, ZdK, ZeP, Bool.and_true, Bool.true_and, Bool.and_false, Bool.false_and, Bool.or_true, Bool.true_or, Bool.or_false, Bool.false_or, Bool.not_true, Bool.not_false, cond_true, cond_false, List.length_map]; done) | ((try simp only [Bool.and_true, Bool.true_and, Bool.and_false, Bool.false_and, Bool.or_true, Bool.true_or, Bool.or_false, Bool.false_or, Bool.not_true, Bool.not_false, cond_true, cond_false, List.length_map] at Zck); (try simp only [Bool.and_true, Bool.true_and, Bool.and_false, Bool.false_and, Bool.or_true, Bool.true_or, Bool.or_false, Bool.false_or, Bool.not_true, Bool.not_false, cond_true, cond_false, List.length_map] at ZdK); (try simp only [Bool.and_true, Bool.true_and, Bool.and_false, Bool.false_and, Bool.or_true, Bool.true_or, Bool.or_false, Bool.false_or, Bool.not_true, Bool.not_false, cond_true, cond_false, List.length_map] at ZeP); (try simp only [Bool.and_true, Bool.true_and, Bool.and_false, Bool.false_and, Bool.or_true, Bool.true_or, Bool.or_false, Bool.false_or, Bool.not_true, Bool.not_false, cond_true, cond_false, List.length_map]); simp only [Zck, ZdK, ZeP, Bool.and_true, Bool.true_and, Bool.and_false, Bool.false_and, Bool.or_true, Bool.true_or, Bool.or_false, Bool.false_or, Bool.not_true, Bool.not_false, cond_true, cond_false, List.length_map])) hc7
     obtain ⟨x6, hx60, hx6, hc7⟩ := ZiQ hc7
     (conv => whnf)
     refine sr (ZhL (f := c_S) rfl hx6) ?_
     obtain rfl := Zs hc7
     refine st ?_
     refine ZA true (fun Zhw => ?_) (fun Zhw => ?_)
     ·have hc9 := Zmh (by first | assumption | exact Eq.refl _ | (simp only [Zck, ZdK, ZeP, Zhw, Bool.and_true, Bool.true_and, Bool.and_false, Bool.false_and, Bool.or_true, Bool.true_or, Bool.or_false, Bool.false_or, Bool.not_true, Bool.not_false, cond_true, cond_false, List.length_map]; done) | ((try simp only [Bool.and_true, Bool.true_and, Bool.and_false, Bool.false_and, Bool.or_true, Bool.true_or, Bool.or_false, Bool.false_or, Bool.not_true, Bool.not_false, cond_true, cond_false, List.length_map] at Zck); (try simp only [Bool.and_true, Bool.true_and, Bool.and_false, Bool.false_and, Bool.or_true, Bool.true_or, Bool.or_false, Bool.false_or, Bool.not_true, Bool.not_false, cond_true, cond_false, List.length_map] at ZdK); (try simp only [Bool.and_true, Bool.true_and, Bool.and_false, Bool.false_and, Bool.or_true, Bool.true_or, Bool.or_false, Bool.false_or, Bool.not_true, Bool.not_false, cond_true, cond_false, List.length_map] at ZeP); (try simp only [Bool.and_true, Bool.true_and, Bool.and_false, Bool.false_and, Bool.or_true, Bool.true_or, Bool.or_false, Bool.false_or, Bool.not_true, Bool.not_false, cond_true, cond_false, List.length_map] at Zhw); (try simp only [Bool.and_true, Bool.true_and, Bool.and_false, Bool.false_and, Bool.or_true, Bool.true_or, Bool.or_false, Bool.false_or, Bool.not_true, Bool.not_false, cond_true, cond_false, List.length_map]); simp only [Zck, ZdK, ZeP, Zhw, Bool.and_true, Bool.true_and, Bool.and_false, Bool.false_and, Bool.or_true, Bool.true_or, Bool.or_false, Bool.false_or, Bool.not_true, Bool.not_false, cond_true, cond_false, List.length_map])) hc9
      obtain ⟨x8, hx80, hx8, hc9⟩ := ZiQ hc9
      (conv => whnf)
      refine sr (ZhL (f := c_S) rfl hx8) ?_
      obtain rfl := Zs hc9
      refine st ?_
      refine ZA true (fun Zhc => ?_) (fun Zhc => ?_)
      ·have ZeF := Zmh (by first | assumption | exact Eq.refl _ | (simp only [Zck, ZdK, ZeP, Zhw, Zhc, Bool.and_true, Bool.true_and, Bool.and_false, Bool.false_and, Bool.or_true, Bool.true_or, Bool.or_false, Bool.false_or, Bool.not_true, Bool.not_false, cond_true, cond_false, List.length_map]; done) | ((try simp only [Bool.and_true, Bool.true_and, Bool.and_false, Bool.false_and, Bool.or_true, Bool.true_or, Bool.or_false, Bool.false_or, Bool.not_true, Bool.not_false, cond_true, cond_false, List.length_map] at Zck); (try simp only [Bool.and_true, Bool.true_and, Bool.and_false, Bool.false_and, Bool.or_true, Bool.true_or, Bool.or_false, Bool.false_or, Bool.not_true, Bool.not_false, cond_true, cond_false, List.length_map] at ZdK); (try simp only [Bool.and_true, Bool.true_and, Bool.and_false, Bool.false_and, Bool.or_true, Bool.true_or, Bool.or_false, Bool.false_or, Bool.not_true, Bool.not_false, cond_true, cond_false, List.length_map] at ZeP); (try simp only [Bool.and_true, Bool.true_and, Bool.and_false, Bool.false_and, Bool.or_true, Bool.true_or, Bool.or_false, Bool.false_or, Bool.not_true, Bool.not_false, cond_true, cond_false, List.length_map] at Zhw); (try simp only [Bool.and_true, Bool.true_and, Bool.and_false, Bool.false_and, Bool.or_true, Bool.true_or, Bool.or_false, Bool.false_or, Bool.not_true, Bool.not_false, cond_true, cond_false, List.length_map] at Zhc); (try simp only [Bool.and_true, Bool.true_and, Bool.and_false, Bool.false_and, Bool.or_true, Bool.true_or, Bool.or_false, Bool.false_or, Bool.not_true, Bool.not_false, cond_true, cond_false, List.length_map]); simp only [Zck, ZdK, ZeP, Zhw, Zhc, Bool.and_true, Bool.true_and, Bool.and_false, Bool.false_and, Bool.or_true, Bool.true_or, Bool.or_false, Bool.false_or, Bool.not_true, Bool.not_false, cond_true, cond_false, List.length_map])) ZeF
       obtain ⟨r10, Zra, ZeF⟩ := bind_some ZeF
       (conv => whnf)
       refine st ?_
       refine e3 ?_
       refine st ?_
       refine cm (Zn.weak (rn []) (ZhR (Zo.mk 2 (ByteArray.mk #[102]) ([(Zq.mk 1 (ByteArray.mk #[120]) 0), (Zq.mk 1 (ByteArray.mk #[102]) 0)]) false ([] : List Zc) ([] : List Zo) ([] : List Zi)) _ Zra) rfl (WS.mk (Zj (ZaM (ZdO (wei (And.intro Zck (And.intro ZdK (And.intro ZeP (And.intro Zhw Zhc))))) (lc (lc (ZdO (web (And.intro Zck (And.intro ZdK (And.intro ZeP (And.intro Zhw Zhc))))) (ZdO WE.nil (ZdO WE.nil (ZdO WE.nil Zr)))))))) Ze) Zf)) ?_
       refine st ?_
       obtain rfl := Zs ZeF
       refine st ?_
       exact wx (WS.mk (Zj (Zaj (web (And.intro Zck (And.intro ZdK (And.intro ZeP (And.intro Zhw Zhc)))))) Ze) Zf)
      ·have ZeF := Zfn (by first | assumption | exact Eq.refl _ | (simp only [Zck, ZdK, ZeP, Zhw, Zhc, Bool.and_true, Bool.true_and, Bool.and_false, Bool.false_and, Bool.or_true, Bool.true_or, Bool.or_false, Bool.false_or, Bool.not_true, Bool.not_false, cond_true, cond_false, List.length_map]; done) | ((try simp only [Bool.and_true, Bool.true_and, Bool.and_false, Bool.false_and, Bool.or_true, Bool.true_or, Bool.or_false, Bool.false_or, Bool.not_true, Bool.not_false, cond_true, cond_false, List.length_map] at Zck); (try simp only [Bool.and_true, Bool.true_and, Bool.and_false, Bool.false_and, Bool.or_true, Bool.true_or, Bool.or_false, Bool.false_or, Bool.not_true, Bool.not_false, cond_true, cond_false, List.length_map] at ZdK); (try simp only [Bool.and_true, Bool.true_and, Bool.and_false, Bool.false_and, Bool.or_true, Bool.true_or, Bool.or_false, Bool.false_or, Bool.not_true, Bool.not_false, cond_true, cond_false, List.length_map] at ZeP); (try simp only [Bool.and_true, Bool.true_and, Bool.and_false, Bool.false_and, Bool.or_true, Bool.true_or, Bool.or_false, Bool.false_or, Bool.not_true, Bool.not_false, cond_true, cond_false, List.length_map] at Zhw); (try simp only [Bool.and_true, Bool.true_and, Bool.and_false, Bool.false_and, Bool.or_true, Bool.true_or, Bool.or_false, Bool.false_or, Bool.not_true, Bool.not_false, cond_true, cond_false, List.length_map] at Zhc); (try simp only [Bool.and_true, Bool.true_and, Bool.and_false, Bool.false_and, Bool.or_true, Bool.true_or, Bool.or_false, Bool.false_or, Bool.not_true, Bool.not_false, cond_true, cond_false, List.length_map]); simp only [Zck, ZdK, ZeP, Zhw, Zhc, Bool.and_true, Bool.true_and, Bool.and_false, Bool.false_and, Bool.or_true, Bool.true_or, Bool.or_false, Bool.false_or, Bool.not_true, Bool.not_false, cond_true, cond_false, List.length_map])) ZeF
       (conv => whnf)
       obtain rfl := Zs ZeF
       refine st ?_
       exact wx (WS.mk (Zj (Zaj (web (And.intro Zck (And.intro ZdK (And.intro ZeP (And.intro Zhw Zhc)))))) Ze) Zf)
     ·have hc9 := Zfn (by first | assumption | exact Eq.refl _ | (simp only [Zck, ZdK, ZeP, Zhw, Bool.and_true, Bool.true_and, Bool.and_false, Bool.false_and, Bool.or_true, Bool.true_or, Bool.or_false, Bool.false_or, Bool.not_true, Bool.not_false, cond_true, cond_false, List.length_map]; done) | ((try simp only [Bool.and_true, Bool.true_and, Bool.and_false, Bool.false_and, Bool.or_true, Bool.true_or, Bool.or_false, Bool.false_or, Bool.not_true, Bool.not_false, cond_true, cond_false, List.length_map] at Zck); (try simp only [Bool.and_true, Bool.true_and, Bool.and_false, Bool.false_and, Bool.or_true, Bool.true_or, Bool.or_false, Bool.false_or, Bool.not_true, Bool.not_false, cond_true, cond_false, List.length_map] at ZdK); (try simp only [Bool.and_true, Bool.true_and, Bool.and_false, Bool.false_and, Bool.or_true, Bool.true_or, Bool.or_false, Bool.false_or, Bool.not_true, Bool.not_false, cond_true, cond_false, List.length_map] at ZeP); (try simp only [Bool.and_true, Bool.true_and, Bool.and_false, Bool.false_and, Bool.or_true, Bool.true_or, Bool.or_false, Bool.false_or, Bool.not_true, Bool.not_false, cond_true, cond_false, List.length_map] at Zhw); (try simp only [Bool.and_true, Bool.true_and, Bool.and_false, Bool.false_and, Bool.or_true, Bool.true_or, Bool.or_false, Bool.false_or, Bool.not_true, Bool.not_false, cond_true, cond_false, List.length_map]); simp only [Zck, ZdK, ZeP, Zhw, Bool.and_true, Bool.true_and, Bool.and_false, Bool.false_and, Bool.or_true, Bool.true_or, Bool.or_false, Bool.false_or, Bool.not_true, Bool.not_false, cond_true, cond_false, List.length_map])) hc9
      (conv => whnf)
      obtain rfl := Zs hc9
      have ZeF := Zfn (by first | assumption | exact Eq.refl _ | (simp only [Zck, ZdK, ZeP, Zhw, Bool.and_true, Bool.true_and, Bool.and_false, Bool.false_and, Bool.or_true, Bool.true_or, Bool.or_false, Bool.false_or, Bool.not_true, Bool.not_false, cond_true, cond_false, List.length_map]; done) | ((try simp only [Bool.and_true, Bool.true_and, Bool.and_false, Bool.false_and, Bool.or_true, Bool.true_or, Bool.or_false, Bool.false_or, Bool.not_true, Bool.not_false, cond_true, cond_false, List.length_map] at Zck); (try simp only [Bool.and_true, Bool.true_and, Bool.and_false, Bool.false_and, Bool.or_true, Bool.true_or, Bool.or_false, Bool.false_or, Bool.not_true, Bool.not_false, cond_true, cond_false, List.length_map] at ZdK); (try simp only [Bool.and_true, Bool.true_and, Bool.and_false, Bool.false_and, Bool.or_true, Bool.true_or, Bool.or_false, Bool.false_or, Bool.not_true, Bool.not_false, cond_true, cond_false, List.length_map] at ZeP); (try simp only [Bool.and_true, Bool.true_and, Bool.and_false, Bool.false_and, Bool.or_true, Bool.true_or, Bool.or_false, Bool.false_or, Bool.not_true, Bool.not_false, cond_true, cond_false, List.length_map] at Zhw); (try simp only [Bool.and_true, Bool.true_and, Bool.and_false, Bool.false_and, Bool.or_true, Bool.true_or, Bool.or_false, Bool.false_or, Bool.not_true, Bool.not_false, cond_true, cond_false, List.length_map]); simp only [Zck, ZdK, ZeP, Zhw, Bool.and_true, Bool.true_and, Bool.and_false, Bool.false_and, Bool.or_true, Bool.true_or, Bool.or_false, Bool.false_or, Bool.not_true, Bool.not_false, cond_true, cond_false, List.length_map])) ZeF
      obtain rfl := Zs ZeF
      refine st ?_
      exact wx (WS.mk (Zj (Zaj (web (And.intro Zck (And.intro ZdK (And.intro ZeP Zhw))))) Ze) Zf)
    ·have hc7 := Zfn (by first | assumption | exact Eq.refl _ | (simp only [Zck, ZdK, ZeP, Bool.and_true, Bool.true_and, Bool.and_false, Bool.false_and, Bool.or_true, Bool.true_or, Bool.or_false, Bool.false_or, Bool.not_true, Bool.not_false, cond_true, cond_false, List.length_map]; done) | ((try simp only [Bool.and_true, Bool.true_and, Bool.and_false, Bool.false_and, Bool.or_true, Bool.true_or, Bool.or_false, Bool.false_or, Bool.not_true, Bool.not_false, cond_true, cond_false, List.length_map] at Zck); (try simp only [Bool.and_true, Bool.true_and, Bool.and_false, Bool.false_and, Bool.or_true, Bool.true_or, Bool.or_false, Bool.false_or, Bool.not_true, Bool.not_false, cond_true, cond_false, List.length_map] at ZdK); (try simp only [Bool.and_true, Bool.true_and, Bool.and_false, Bool.false_and, Bool.or_true, Bool.true_or, Bool.or_false, Bool.false_or, Bool.not_true, Bool.not_false, cond_true, cond_false, List.length_map] at ZeP); (try simp only [Bool.and_true, Bool.true_and, Bool.and_false, Bool.false_and, Bool.or_true, Bool.true_or, Bool.or_false, Bool.false_or, Bool.not_true, Bool.not_false, cond_true, cond_false, List.length_map]); simp only [Zck, ZdK, ZeP, Bool.and_true, Bool.true_and, Bool.and_false, Bool.false_and, Bool.or_true, Bool.true_or, Bool.or_false, Bool.false_or, Bool.not_true, Bool.not_false, cond_true, cond_false, List.length_map])) hc7
     (conv => whnf)
     obtain rfl := Zs hc7
     have hc9 := Zfn (by first | assumption | exact Eq.refl _ | (simp only [Zck, ZdK, ZeP, Bool.and_true, Bool.true_and, Bool.and_false, Bool.false_and, Bool.or_true, Bool.true_or, Bool.or_false, Bool.false_or, Bool.not_true, Bool.not_false, cond_true, cond_false, List.length_map]; done) | ((try simp only [Bool.and_true, Bool.true_and, Bool.and_false, Bool.false_and, Bool.or_true, Bool.true_or, Bool.or_false, Bool.false_or, Bool.not_true, Bool.not_false, cond_true, cond_false, List.length_map] at Zck); (try simp only [Bool.and_true, Bool.true_and, Bool.and_false, Bool.false_and, Bool.or_true, Bool.true_or, Bool.or_false, Bool.false_or, Bool.not_true, Bool.not_false, cond_true, cond_false, List.length_map] at ZdK); (try simp only [Bool.and_true, Bool.true_and, Bool.and_false, Bool.false_and, Bool.or_true, Bool.true_or, Bool.or_false, Bool.false_or, Bool.not_true, Bool.not_false, cond_true, cond_false, List.length_map] at ZeP); (try simp only [Bool.and_true, Bool.true_and, Bool.and_false, Bool.false_and, Bool.or_true, Bool.true_or, Bool.or_false, Bool.false_or, Bool.not_true, Bool.not_false, cond_true, cond_false, List.length_map]); simp only [Zck, ZdK, ZeP, Bool.and_true, Bool.true_and, Bool.and_false, Bool.false_and, Bool.or_true, Bool.true_or, Bool.or_false, Bool.false_or, Bool.not_true, Bool.not_false, cond_true, cond_false, List.length_map])) hc9
     obtain rfl := Zs hc9
     have ZeF := Zfn (by first | assumption | exact Eq.refl _ | (simp only [Zck, ZdK, ZeP, Bool.and_true, Bool.true_and, Bool.and_false, Bool.false_and, Bool.or_true, Bool.true_or, Bool.or_false, Bool.false_or, Bool.not_true, Bool.not_false, cond_true, cond_false, List.length_map]; done) | ((try simp only [Bool.and_true, Bool.true_and, Bool.and_false, Bool.false_and, Bool.or_true, Bool.true_or, Bool.or_false, Bool.false_or, Bool.not_true, Bool.not_false, cond_true, cond_false, List.length_map] at Zck); (try simp only [Bool.and_true, Bool.true_and, Bool.and_false, Bool.false_and, Bool.or_true, Bool.true_or, Bool.or_false, Bool.false_or, Bool.not_true, Bool.not_false, cond_true, cond_false, List.length_map] at ZdK); (try simp only [Bool.and_true, Bool.true_and, Bool.and_false, Bool.false_and, Bool.or_true, Bool.true_or, Bool.or_false, Bool.false_or, Bool.not_true, Bool.not_false, cond_true, cond_false, List.length_map] at ZeP); (try simp only [Bool.and_true, Bool.true_and, Bool.and_false, Bool.false_and, Bool.or_true, Bool.true_or, Bool.or_false, Bool.false_or, Bool.not_true, Bool.not_false, cond_true, cond_false, List.length_map]); simp only [Zck, ZdK, ZeP, Bool.and_true, Bool.true_and, Bool.and_false, Bool.false_and, Bool.or_true, Bool.true_or, Bool.or_false, Bool.false_or, Bool.not_true, Bool.not_false, cond_true, cond_false, List.length_map])) ZeF
     obtain rfl := Zs ZeF
     refine st ?_
     exact wx (WS.mk (Zj (Zaj (web (And.intro Zck (And.intro ZdK ZeP)))) Ze) Zf)
   ·(conv => whnf)
    have hc7 := Zfn (by first | assumption | exact Eq.refl _ | (simp only [Zck, ZdK, Bool.and_true, Bool.true_and, Bool.and_false, Bool.false_and, Bool.or_true, Bool.true_or, Bool.or_false, Bool.false_or, Bool.not_true, Bool.not_false, cond_true, cond_false, List.length_map]; done) | ((try simp only [Bool.and_true, Bool.true_and, Bool.and_false, Bool.false_and, Bool.or_true, Bool.true_or, Bool.or_false, Bool.false_or, Bool.not_true, Bool.not_false, cond_true, cond_false, List.length_map] at Zck); (try simp only [Bool.and_true, Bool.true_and, Bool.and_false, Bool.false_and, Bool.or_true, Bool.true_or, Bool.or_false, Bool.false_or, Bool.not_true, Bool.not_false, cond_true, cond_false, List.length_map] at ZdK); (try simp only [Bool.and_true, Bool.true_and, Bool.and_false, Bool.false_and, Bool.or_true, Bool.true_or, Bool.or_false, Bool.false_or, Bool.not_true, Bool.not_false, cond_true, cond_false, List.length_map]); simp only [Zck, ZdK, Bool.and_true, Bool.true_and, Bool.and_false, Bool.false_and, Bool.or_true, Bool.true_or, Bool.or_false, Bool.false_or, Bool.not_true, Bool.not_false, cond_true, cond_false, List.length_map])) hc7
    obtain rfl := Zs hc7
    have hc9 := Zfn (by first | assumption | exact Eq.refl _ | (simp only [Zck, ZdK, Bool.and_true, Bool.true_and, Bool.and_false, Bool.false_and, Bool.or_true, Bool.true_or, Bool.or_false, Bool.false_or, Bool.not_true, Bool.not_false, cond_true, cond_false, List.length_map]; done) | ((try simp only [Bool.and_true, Bool.true_and, Bool.and_false, Bool.false_and, Bool.or_true, Bool.true_or, Bool.or_false, Bool.false_or, Bool.not_true, Bool.not_false, cond_true, cond_false, List.length_map] at Zck); (try simp only [Bool.and_true, Bool.true_and, Bool.and_false, Bool.false_and, Bool.or_true, Bool.true_or, Bool.or_false, Bool.false_or, Bool.not_true, Bool.not_false, cond_true, cond_false, List.length_map] at ZdK); (try simp only [Bool.and_true, Bool.true_and, Bool.and_false, Bool.false_and, Bool.or_true, Bool.true_or, Bool.or_false, Bool.false_or, Bool.not_true, Bool.not_false, cond_true, cond_false, List.length_map]); simp only [Zck, ZdK, Bool.and_true, Bool.true_and, Bool.and_false, Bool.false_and, Bool.or_true, Bool.true_or, Bool.or_false, Bool.false_or, Bool.not_true, Bool.not_false, cond_true, cond_false, List.length_map])) hc9
    obtain rfl := Zs hc9
    have ZeF := Zfn (by first | assumption | exact Eq.refl _ | (simp only [Zck, ZdK, Bool.and_true, Bool.true_and, Bool.and_false, Bool.false_and, Bool.or_true, Bool.true_or, Bool.or_false, Bool.false_or, Bool.not_true, Bool.not_false, cond_true, cond_false, List.length_map]; done) | ((try simp only [Bool.and_true, Bool.true_and, Bool.and_false, Bool.false_and, Bool.or_true, Bool.true_or, Bool.or_false, Bool.false_or, Bool.not_true, Bool.not_false, cond_true, cond_false, List.length_map] at Zck); (try simp only [Bool.and_true, Bool.true_and, Bool.and_false, Bool.false_and, Bool.or_true, Bool.true_or, Bool.or_false, Bool.false_or, Bool.not_true, Bool.not_false, cond_true, cond_false, List.length_map] at ZdK); (try simp only [Bool.and_true, Bool.true_and, Bool.and_false, Bool.false_and, Bool.or_true, Bool.true_or, Bool.or_false, Bool.false_or, Bool.not_true, Bool.not_false, cond_true, cond_false, List.length_map]); simp only [Zck, ZdK, Bool.and_true, Bool.true_and, Bool.and_false, Bool.false_and, Bool.or_true, Bool.true_or, Bool.or_false, Bool.false_or, Bool.not_true, Bool.not_false, cond_true, cond_false, List.length_map])) ZeF
    obtain rfl := Zs ZeF
    refine st ?_
    exact wx (WS.mk (Zj (Zaj (web (And.intro Zck ZdK))) Ze) Zf)
  ·have hc4 := Zfn (by first | assumption | exact Eq.refl _ | (simp only [Zck, Bool.and_true, Bool.true_and, Bool.and_false, Bool.false_and, Bool.or_true, Bool.true_or, Bool.or_false, Bool.false_or, Bool.not_true, Bool.not_false, cond_true, cond_false, List.length_map]; done) | ((try simp only [Bool.and_true, Bool.true_and, Bool.and_false, Bool.false_and, Bool.or_true, Bool.true_or, Bool.or_false, Bool.false_or, Bool.not_true, Bool.not_false, cond_true, cond_false, List.length_map] at Zck); (try simp only [Bool.and_true, Bool.true_and, Bool.and_false, Bool.false_and, Bool.or_true, Bool.true_or, Bool.or_false, Bool.false_or, Bool.not_true, Bool.not_false, cond_true, cond_false, List.length_map]); simp only [Zck, Bool.and_true, Bool.true_and, Bool.and_false, Bool.false_and, Bool.or_true, Bool.true_or, Bool.or_false, Bool.false_or, Bool.not_true, Bool.not_false, cond_true, cond_false, List.length_map])) hc4
   (conv => whnf)
   obtain rfl := Zs hc4
   have hc7 := Zfn (by first | assumption | exact Eq.refl _ | (simp only [Zck, Bool.and_true, Bool.true_and, Bool.and_false, Bool.false_and, Bool.or_true, Bool.true_or, Bool.or_false, Bool.false_or, Bool.not_true, Bool.not_false, cond_true, cond_false, List.length_map]; done) | ((try simp only [Bool.and_true, Bool.true_and, Bool.and_false, Bool.false_and, Bool.or_true, Bool.true_or, Bool.or_false, Bool.false_or, Bool.not_true, Bool.not_false, cond_true, cond_false, List.length_map] at Zck); (try simp only [Bool.and_true, Bool.true_and, Bool.and_false, Bool.false_and, Bool.or_true, Bool.true_or, Bool.or_false, Bool.false_or, Bool.not_true, Bool.not_false, cond_true, cond_false, List.length_map]); simp only [Zck, Bool.and_true, Bool.true_and, Bool.and_false, Bool.false_and, Bool.or_true, Bool.true_or, Bool.or_false, Bool.false_or, Bool.not_true, Bool.not_false, cond_true, cond_false, List.length_map])) hc7
   obtain rfl := Zs hc7
   have hc9 := Zfn (by first | assumption | exact Eq.refl _ | (simp only [Zck, Bool.and_true, Bool.true_and, Bool.and_false, Bool.false_and, Bool.or_true, Bool.true_or, Bool.or_false, Bool.false_or, Bool.not_true, Bool.not_false, cond_true, cond_false, List.length_map]; done) | ((try simp only [Bool.and_true, Bool.true_and, Bool.and_false, Bool.false_and, Bool.or_true, Bool.true_or, Bool.or_false, Bool.false_or, Bool.not_true, Bool.not_false, cond_true, cond_false, List.length_map] at Zck); (try simp only [Bool.and_true, Bool.true_and, Bool.and_false, Bool.false_and, Bool.or_true, Bool.true_or, Bool.or_false, Bool.false_or, Bool.not_true, Bool.not_false, cond_true, cond_false, List.length_map]); simp only [Zck, Bool.and_true, Bool.true_and, Bool.and_false, Bool.false_and, Bool.or_true, Bool.true_or, Bool.or_false, Bool.false_or, Bool.not_true, Bool.not_false, cond_true, cond_false, List.length_map])) hc9
   obtain rfl := Zs hc9
   have ZeF := Zfn (by first | assumption | exact Eq.refl _ | (simp only [Zck, Bool.and_true, Bool.true_and, Bool.and_false, Bool.false_and, Bool.or_true, Bool.true_or, Bool.or_false, Bool.false_or, Bool.not_true, Bool.not_false, cond_true, cond_false, List.length_map]; done) | ((try simp only [Bool.and_true, Bool.true_and, Bool.and_false, Bool.false_and, Bool.or_true, Bool.true_or, Bool.or_false, Bool.false_or, Bool.not_true, Bool.not_false, cond_true, cond_false, List.length_map] at Zck); (try simp only [Bool.and_true, Bool.true_and, Bool.and_false, Bool.false_and, Bool.or_true, Bool.true_or, Bool.or_false, Bool.false_or, Bool.not_true, Bool.not_false, cond_true, cond_false, List.length_map]); simp only [Zck, Bool.and_true, Bool.true_and, Bool.and_false, Bool.false_and, Bool.or_true, Bool.true_or, Bool.or_false, Bool.false_or, Bool.not_true, Bool.not_false, cond_true, cond_false, List.length_map])) ZeF
   obtain rfl := Zs ZeF
   refine st ?_
   exact wx (WS.mk (Zj (Zaj (web Zck)) Ze) Zf)
 obtain ⟨r0, hw⟩ := hw
 (conv => whnf)
 refine AWP.weak r0 hw ?_
 obtain rfl := Zs hF
 refine ns ?_
 refine Exists.intro [] ?_
 refine st ?_
 exact wx (WS.mk (tc Ze) Zf)

def ZdE (s : ByteArray) (i_3 : Nat) : Option (Bool) :=
 if (decide (((i_3 : Nat) : Int) < ((s.size : Nat) : Int))) = true then
 (btI s ((i_3 : Nat) : Int)) >>= fun y21 =>
 (if (decide (((y21.toNat : Nat) : Int) < 33)) = true then some true else (btI s ((i_3 : Nat) : Int)) >>= fun y22 =>
 some (decide (((y22.toNat : Nat) : Int) > 126))) >>= fun c23 =>
 if c23 = true then
 some false
 else
 ZaY (i_3 + 1 ≤ 9223372036854775807) >>= fun _ =>
 ZdE s (i_3 + 1)
 else
 some true
 partial_fixpoint
def ZdE.M (s : ByteArray) (i_3 : Nat) (r : Bool) : Prop :=
 AWL Tryz.prog 35 (Code.sub (Zt Tryz.f123) [1, 1, 0, 1, 0, 0]) (Code.cont Tryz.prog 35 (Zt Tryz.f123) [1, 1, 0, 1, 0] (Zbl tab Tryz.f123.results (Zbo (.c none (.v (.bool r))) []))) ⟨[(0, .c none (.v (.string s))), (3, .c none (.v (.int .i64 ((i_3 : Nat) : Int))))], []⟩

def ZhZ (s : ByteArray) : Option (Bool) :=
 if ((((s.toList == (ByteArray.mk #[]).toList) || (decide (((s.size : Nat) : Int) > 158))) || (s.toList == (ByteArray.mk #[40]).toList)) || (s.toList == (ByteArray.mk #[41]).toList)) = true then
 some false
 else
 ZdE s 0
def ZhZ.M (s : ByteArray) (r : Bool) : Prop :=
 Zn Tryz.prog 123 [.c none (.v (.string s))] [] (fun d b => d = .c none (.v (.bool r)) ∧ b = [])

def Zdc (e : Zo) : Option (Bool) :=
 Zao e >>= fun r1 =>
 (if (decide (r1 ≤ 60)) = true then ZaJ e >>= fun r2 =>
 some (decide (r2 ≤ 1500)) else some false) >>= fun c3 =>
 some c3
def Zdc.M (e : Zo) (r : Bool) : Prop :=
 Zn Tryz.prog 16 [.agg [.v (.int .i64 e.fOp), .v (.string e.fName), .sl (e.fArgs.map Zq.cells), .v (.bool e.fRec), .sl (e.fBinds.map Zc.cells), .sl (e.fKids.map Zo.cells), .sl (e.fAlts.map Zi.cells)]] [] (fun d b => d = .c none (.v (.bool r)) ∧ b = [])
theorem ZiT (e : Zo) (r : Bool) (hF : Zdc e = some r) : Zdc.M e r := by
 unfold Zdc at hF
 unfold Zdc.M
 refine en Tryz.func16 ?_
 refine AWP.seq ?_
 refine ns ?_
 refine AWP.seq ?_
 obtain ⟨r1, hr1, hF⟩ := bind_some hF
 obtain ⟨c3, hc3, hF⟩ := bind_some hF
 refine AWP.cutN (fun T => ∃ r, WS r T ⟨[(2, .c none (.v (.bool c3)))], []⟩) ?_ (fun T hw => ?_)
 ·refine ns ?_
  refine e3 ?_
  refine st ?_
  refine cm (Zn.weak (rn []) (Zkv e _ hr1) rfl (WS.mk (Zj (ZaM (lc (lc (lc (lc (lc (lc (lc Zr)))))))) Ze) Zf)) ?_
  refine st ?_
  refine ZA true (fun hc4 => ?_) (fun hc4 => ?_)
  ·have hc3 := ift hc4 hc3
   obtain ⟨r2, hr2, hc3⟩ := bind_some hc3
   (conv => whnf)
   refine st ?_
   refine e3 ?_
   refine st ?_
   refine cm (Zn.weak (rn []) (Ziw e _ hr2) rfl (WS.mk (Zj (ZaM (lc (lc (lc (lc (lc (lc (lc Zr)))))))) Ze) Zf)) ?_
   refine st ?_
   obtain rfl := Zs hc3
   refine st ?_
   exact wx (WS.mk (Zj (Zaj (web hc4)) Ze) Zf)
  ·have hc3 := ife hc4 hc3
   (conv => whnf)
   obtain rfl := Zs hc3
   refine st ?_
   exact wx (WS.mk (Zj (Zaj (web hc4)) Ze) Zf)
 obtain ⟨r0, hw⟩ := hw
 (conv => whnf)
 refine AWP.weak r0 hw ?_
 obtain rfl := Zs hF
 refine ns ?_
 refine Exists.intro [] ?_
 refine st ?_
 exact wx (WS.mk (tc Ze) Zf)

def Zbt (a : (List ByteArray)) (b : (List ByteArray)) (i_5 : Nat) (Zb2 : (List ByteArray)) : Option (Bool) :=
 (match Zb2 with
 | x28 :: Zx7 =>
 (b[i_5]?) >>= fun x32 =>
 if (!(x28.toList == x32.toList)) = true then
 some false
 else
 Zbt a b (i_5 + 1) Zx7
 | [] =>
 some true)
 partial_fixpoint
def Zbt.M (a : (List ByteArray)) (b : (List ByteArray)) (i_5 : Nat) (Zb2 : (List ByteArray)) (r : Bool) : Prop :=
 ∀ Zd0 : List ByteArray, a = Zd0 ++ Zb2 → i_5 = Zd0.length → a.length ≤ maxLen → b.length ≤ maxLen → AWL Tryz.prog 26 (Code.sub (Zt Tryz.f17) [1, 1, 0, 1, 0, 0]) (Code.cont Tryz.prog 26 (Zt Tryz.f17) [1, 1, 0, 1, 0] (Zbl tab Tryz.f17.results (Zbo (.c none (.v (.bool r))) []))) ⟨[(0, .c none (.sl (a.map c_S))), (1, .c none (.sl (b.map c_S))), (5, .c none (.v (.int .i64 ((i_5 : Nat) : Int))))], []⟩
theorem Zkw (a : (List ByteArray)) (b : (List ByteArray)) (i_5 : Nat) (Zb2 : (List ByteArray)) : ∀ r, Zbt a b i_5 Zb2 = some r → Zbt.M a b i_5 Zb2 r := by
 refine Zbt.partial_correctness a b (fun i_5 Zb2 r => Zbt.M a b i_5 Zb2 r) ?_ i_5 Zb2
 intro lazyclaw36_same_l1' ZgZ i_5 Zb2 r hF
 have Zky := fun (_a : (List ByteArray)) (_b : (List ByteArray)) (i_5 : Nat) (Zb2 : (List ByteArray)) => ZgZ i_5 Zb2
 clear ZgZ
 unfold Zbt.M
 intro Zd0 Ziq Zii hlen4 hlen5
 refine AWL.step ?_
 refine AWP.seq ?_
 refine AWP.seq ?_
 refine ns ?_
 intro hlen27
 (try rw [List.length_map] at hlen27)
 (try rw [List.length_map])
 refine st ?_
 refine nw ?_
 refine ZB Ziq Zii (fun x28 Zx7 Zye Zzf ZBh => ?_) (fun Zye => ?_)
 ·subst Zye
  refine nw ?_
  refine AWP.seq ?_
  refine AWP.block ?_
  refine AWP.seq ?_
  obtain ⟨x32, ZAZ, hF⟩ := bind_some hF
  refine nn ?_
  refine Or.inl (Or.inl (Exists.intro 8 (Exists.intro [[], [], [], [], [], [], [], []] (Exists.intro [([17, 18, 19, 20, 21, 22, 23, 24], [], []), ([17, 18, 19, 20, 21, 22, 23, 24], [], []), ([19, 20, 21, 22, 23, 24], [], []), ([20, 21, 22, 23, 24], [], []), ([17, 18, 19, 20, 21, 22, 23, 24], [], []), ([17, 18, 19, 20, 21, 22, 23, 24], [], []), ([17, 18, 19, 20, 23, 24], [], []), ([17, 18, 19, 20, 24], [], [])] (Exists.intro [17, 18, 19, 20, 21, 22, 23, 24] (And.intro (by decide +kernel) ?_))))))
  refine dp ?_
  refine dp ?_
  refine dr (Z9 rfl Zzf) ?_
  refine dp ?_
  refine dp ?_
  refine dp ?_
  refine dr (Z9 rfl ZAZ) ?_
  refine dp ?_
  refine st ?_
  refine nw ?_
  refine Zw hF (fun ZBz hF => ?_) (fun ZBz hF => ?_)
  ·refine AWP.seq ?_
   refine ns ?_
   obtain rfl := Zs hF
   refine ns ?_
   refine Exists.intro [] ?_
   refine st ?_
   exact wx (WS.mk (tc Ze) Zf)
  ·refine nw ?_
   refine ns ?_
   refine AWL.weak (rn []) ?_ (Zky a b (i_5 + 1) Zx7 _ hF (Zd0 ++ [x28]) (by rw [Ziq]; simp) (by rw [Zii]; simp) hlen27 hlen5)
   exact (WS.mk (tc (tc (Zj (Zaj (Zcw (ZD hlen27 ZBh))) Ze))) Zf)
 ·subst Zye
  refine nw ?_
  refine AWP.seq ?_
  refine ns ?_
  obtain rfl := Zs hF
  refine ns ?_
  refine Exists.intro [] ?_
  refine st ?_
  exact wx (WS.mk (tc Ze) Zf)

def ZcF (a : (List ByteArray)) (b : (List ByteArray)) : Option (Bool) :=
 if (((a.length : Nat) : Int) != ((b.length : Nat) : Int)) = true then
 some false
 else
 Zbt a b 0 a
def ZcF.M (a : (List ByteArray)) (b : (List ByteArray)) (r : Bool) : Prop :=
 Zn Tryz.prog 17 [.c none (.sl (a.map c_S)), .c none (.sl (b.map c_S))] [] (fun d b => d = .c none (.v (.bool r)) ∧ b = [])
theorem Zib (a : (List ByteArray)) (b : (List ByteArray)) (r : Bool) (hF : ZcF a b = some r) : ZcF.M a b r := by
 unfold ZcF at hF
 unfold ZcF.M
 refine en Tryz.func17 ?_
 refine AWP.seq ?_
 refine ns ?_
 refine AWP.seq ?_
 refine AWP.seq ?_
 refine ns ?_
 intro hlen4
 (try rw [List.length_map] at hlen4)
 (try rw [List.length_map])
 refine st ?_
 intro hlen5
 (try rw [List.length_map] at hlen5)
 (try rw [List.length_map])
 refine st ?_
 refine nw ?_
 refine Zw hF (fun hc6 hF => ?_) (fun hc6 hF => ?_)
 ·refine AWP.seq ?_
  refine ns ?_
  obtain rfl := Zs hF
  refine ns ?_
  refine Exists.intro [] ?_
  refine st ?_
  exact wx (WS.mk (tc Ze) Zf)
 ·refine nw ?_
  refine AWP.seq ?_
  refine AWP.seq ?_
  refine ns ?_
  refine AWP.block ?_
  refine AWP.loop ?_
  refine AWL.weak (rn []) ?_ (Zkw a b 0 a _ hF ([]) rfl rfl hlen4 hlen5)
  exact (WS.mk (tc (tc (tc Ze))) Zf)

def ZcA (e : Zo) : Option (Bool) :=
 Zdc e >>= fun r4 =>
 if (!r4) = true then
 Zbf >>= fun r6 =>
 some r6
 else
 Zet e >>= fun r15 =>
 ZL e >>= fun r16 =>
 ZcF r15 r16 >>= fun r17 =>
 (if r17 = true then ZaV e >>= fun r18 =>
 ZaJ e >>= fun r19 =>
 some (r18 == r19) else some false) >>= fun c20 =>
 (if c20 = true then Zbf >>= fun r21 =>
 some r21 else some false) >>= fun c22 =>
 some c22
def ZcA.M (e : Zo) (r : Bool) : Prop :=
 Zn Tryz.prog 4 [.agg [.v (.int .i64 e.fOp), .v (.string e.fName), .sl (e.fArgs.map Zq.cells), .v (.bool e.fRec), .sl (e.fBinds.map Zc.cells), .sl (e.fKids.map Zo.cells), .sl (e.fAlts.map Zi.cells)]] [] (fun d b => d = .c none (.v (.bool r)) ∧ b = [])
theorem Zkz (e : Zo) (r : Bool) (hF : ZcA e = some r) : ZcA.M e r := by
 unfold ZcA at hF
 unfold ZcA.M
 refine en Tryz.func4 ?_
 refine AWP.seq ?_
 refine ns ?_
 refine AWP.seq ?_
 refine AWP.seq ?_
 obtain ⟨r4, hr4, hF⟩ := bind_some hF
 refine ns ?_
 refine e3 ?_
 refine st ?_
 refine cm (Zn.weak (rn []) (ZiT e _ hr4) rfl (WS.mk (Zj (ZaM (lc (lc (lc (lc (lc (lc (lc Zr)))))))) Ze) Zf)) ?_
 refine st ?_
 refine nw ?_
 refine Zw hF (fun hc5 hF => ?_) (fun hc5 hF => ?_)
 ·refine AWP.seq ?_
  obtain ⟨r6, hr6, hF⟩ := bind_some hF
  refine ns ?_
  refine e3 ?_
  refine st ?_
  refine cm (Zn.weak (rn []) (Zeh _ hr6) rfl (WS.mk Ze Zf)) ?_
  refine st ?_
  obtain rfl := Zs hF
  refine ns ?_
  refine Exists.intro [] ?_
  refine st ?_
  exact wx (WS.mk (tc Ze) Zf)
 ·refine nw ?_
  refine AWP.seq ?_
  obtain ⟨r15, Zsp, hF⟩ := bind_some hF
  obtain ⟨r16, ZqH, hF⟩ := bind_some hF
  obtain ⟨r17, ZnU, hF⟩ := bind_some hF
  obtain ⟨c20, Zn0, hF⟩ := bind_some hF
  obtain ⟨c22, Zoy, hF⟩ := bind_some hF
  refine AWP.cutN (fun T => ∃ r, WS r T ⟨[(2, .c none (.v (.bool c22)))], []⟩) ?_ (fun T hw => ?_)
  ·refine nn ?_
   refine Or.inl (Or.inl (Exists.intro 9 (Exists.intro [[], [], [], [], [], [], [], [], []] (Exists.intro [([7, 8, 9, 10, 11, 12, 13, 14, 15], [], []), ([8, 9, 10, 11, 12, 13, 14, 15], [], []), ([7, 8, 9, 10, 11, 12, 13, 14, 15], [], []), ([10, 11, 12, 13, 14, 15], [], []), ([11, 12, 13, 14, 15], [], []), ([12, 13, 14, 15], [], []), ([13, 14, 15], [], []), ([14, 15], [], []), ([13, 14, 15], [], [])] (Exists.intro [7, 8, 9, 10, 11, 12, 13, 14, 15] (And.intro (by decide +kernel) ?_))))))
   refine dp ?_
   (refine st ?_; apply Exists.intro; apply Exists.intro; apply And.intro; (focus ((conv => whnf); refine Exists.intro [] ?_; (conv => whnf); refine And.intro rfl ?_; (conv => whnf); refine Zn.mono (Zn.weak (rn []) (ZiR e _ Zsp) rfl (WS.mk (Zj (ZaM (lc (lc (lc (lc (lc (lc (lc Zr)))))))) Ze) Zf)) ?_; rintro d b ⟨rfl, rfl⟩; exact And.intro rfl (And.intro rfl rfl))); apply And.intro; (focus exact rfl); (conv => whnf))
   refine dp ?_
   (refine st ?_; apply Exists.intro; apply Exists.intro; apply And.intro; (focus ((conv => whnf); refine Exists.intro [] ?_; (conv => whnf); refine And.intro rfl ?_; (conv => whnf); refine Zn.mono (Zn.weak (rn []) (Zl8 e _ ZqH) rfl (WS.mk (Zj (ZaM (lc (lc (lc (lc (lc (lc (lc Zr)))))))) Ze) Zf)) ?_; rintro d b ⟨rfl, rfl⟩; exact And.intro rfl (And.intro rfl rfl))); apply And.intro; (focus exact rfl); (conv => whnf))
   (refine st ?_; apply Exists.intro; apply Exists.intro; apply And.intro; (focus ((conv => whnf); refine Exists.intro [] ?_; (conv => whnf); refine And.intro rfl ?_; (conv => whnf); refine Zn.mono (Zn.weak (rn []) (Zib r15 r16 _ ZnU) rfl (WS.mk (tc (tc Ze)) Zf)) ?_; rintro d b ⟨rfl, rfl⟩; exact And.intro rfl (And.intro rfl rfl))); apply And.intro; (focus exact rfl); (conv => whnf))
   refine dp ?_
   refine st ?_
   refine ZA true (fun Zjm => ?_) (fun Zjm => ?_)
   ·have Zn0 := ift Zjm Zn0
    obtain ⟨r18, Zxj, Zn0⟩ := bind_some Zn0
    obtain ⟨r19, ZBr, Zn0⟩ := bind_some Zn0
    (conv => whnf)
    refine dp ?_
    (refine st ?_; apply Exists.intro; apply Exists.intro; apply And.intro; (focus ((conv => whnf); refine Exists.intro [] ?_; (conv => whnf); refine And.intro rfl ?_; (conv => whnf); refine Zn.mono (Zn.weak (rn []) (ZhR e _ Zxj) rfl (WS.mk (Zj (ZaM (lc (lc (lc (lc (lc (lc (lc Zr)))))))) Ze) Zf)) ?_; rintro d b ⟨rfl, rfl⟩; exact And.intro rfl (And.intro rfl rfl))); apply And.intro; (focus exact rfl); (conv => whnf))
    refine dp ?_
    refine st ?_
    refine e3 ?_
    refine st ?_
    refine cm (Zn.weak (rn []) (Ziw e _ ZBr) rfl (WS.mk (Zj (ZaM (lc (lc (lc (lc (lc (lc (lc Zr)))))))) Ze) Zf)) ?_
    refine st ?_
    obtain rfl := Zs Zn0
    refine st ?_
    refine ZA true (fun Znl => ?_) (fun Znl => ?_)
    ·have Zoy := ift (And.intro Zjm Znl) Zoy
     obtain ⟨r21, ZBE, Zoy⟩ := bind_some Zoy
     (conv => whnf)
     refine st ?_
     refine e3 ?_
     refine st ?_
     refine cm (Zn.weak (rn []) (Zeh _ ZBE) rfl (WS.mk Ze Zf)) ?_
     refine st ?_
     obtain rfl := Zs Zoy
     refine st ?_
     exact wx (WS.mk (Zj (Zaj (web (And.intro Zjm Znl))) Ze) Zf)
    ·have Zoy := ife (And.intro Zjm Znl) Zoy
     (conv => whnf)
     obtain rfl := Zs Zoy
     refine st ?_
     exact wx (WS.mk (Zj (Zaj (web (And.intro Zjm Znl))) Ze) Zf)
   ·have Zn0 := ife Zjm Zn0
    (conv => whnf)
    obtain rfl := Zs Zn0
    have Zoy := ife Zjm Zoy
    obtain rfl := Zs Zoy
    refine st ?_
    exact wx (WS.mk (Zj (Zaj (web Zjm)) Ze) Zf)
  obtain ⟨r0, hw⟩ := hw
  (conv => whnf)
  refine AWP.weak r0 hw ?_
  obtain rfl := Zs hF
  refine ns ?_
  refine Exists.intro [] ?_
  refine st ?_
  exact wx (WS.mk (tc Ze) Zf)

def Zat (scrutinee : ByteArray) (name_ : ByteArray) (ZeW : (List ByteArray)) (r24 : ((List ByteArray))) (ZkR : Nat) (e : Zo) (Zgz : (List ByteArray)) : Option (Bool) :=
 (match Zgz with
 | x37 :: Zvv =>
 if ((!(x37.toList == name_.toList)) && (!(x37.toList == scrutinee.toList))) = true then
 ZaY ((ZeW.length + ([x37]).length) * 16 ≤ 140737488355328) >>= fun _ =>
 Zat scrutinee name_ (ZeW ++ ([x37])) r24 (ZkR + 1) e Zvv
 else
 Zat scrutinee name_ ZeW r24 (ZkR + 1) e Zvv
 | [] =>
 Zet (Zo.mk 6 name_ ([] : List Zq) false ([] : List Zc) ([(Zo.mk 1 (ByteArray.mk #[]) ([(Zq.mk 1 scrutinee 0)]) false ([] : List Zc) ([] : List Zo) ([] : List Zi))]) ([(Zi.mk 4 (ByteArray.mk #[]) 0 ([] : List ByteArray) e)])) >>= fun r50 =>
 ZcF r50 ZeW >>= fun r51 =>
 (if r51 = true then ZaV (Zo.mk 6 name_ ([] : List Zq) false ([] : List Zc) ([(Zo.mk 1 (ByteArray.mk #[]) ([(Zq.mk 1 scrutinee 0)]) false ([] : List Zc) ([] : List Zo) ([] : List Zi))]) ([(Zi.mk 4 (ByteArray.mk #[]) 0 ([] : List ByteArray) e)])) >>= fun r52 =>
 ZaV e >>= fun r53 =>
 some (r52 == (IntKind.i64.wrap (r53 + 4))) else some false) >>= fun c54 =>
 (if c54 = true then Zbf >>= fun r55 =>
 some r55 else some false) >>= fun c56 =>
 some c56)
 partial_fixpoint
def Zat.M (scrutinee : ByteArray) (name_ : ByteArray) (ZeW : (List ByteArray)) (r24 : ((List ByteArray))) (ZkR : Nat) (e : Zo) (Zgz : (List ByteArray)) (r : Bool) : Prop :=
 ∀ ZkU : List ByteArray, r24 = ZkU ++ Zgz → ZkR = ZkU.length → r24.length ≤ maxLen → AWL Tryz.prog 64 (Code.sub (Zt Tryz.f5) [1, 1, 1, 1, 1, 0, 1, 0, 0]) (Code.cont Tryz.prog 64 (Zt Tryz.f5) [1, 1, 1, 1, 1, 0, 1, 0] (Zbl tab Tryz.f5.results (Zbo (.c none (.v (.bool r))) []))) ⟨[(1, .c none (.v (.string scrutinee))), (2, .c none (.v (.string name_))), (3, .ptr 3 0), (8, .ptr 8 0), (9, .c (some (9, 9)) (.sl (ZeW.map c_S))), (30, .c (some (30, 9)) (.sl (r24.map c_S))), (31, .c none (.v (.int .i64 ((r24.length : Nat) : Int)))), (32, .c none (.v (.int .i64 ((ZkR : Nat) : Int))))], [(3, [(none, .v (.int .i64 e.fOp)), (none, .v (.string e.fName)), (none, .sl (e.fArgs.map Zq.cells)), (none, .v (.bool e.fRec)), (none, .sl (e.fBinds.map Zc.cells)), (none, .sl (e.fKids.map Zo.cells)), (none, .sl (e.fAlts.map Zi.cells))]), (8, [(none, .v (.int .i64 6)), (none, .v (.string name_)), (none, .nils), (none, .v (.bool false)), (none, .nils), (none, .sl (([(Zo.mk 1 (ByteArray.mk #[]) ([(Zq.mk 1 scrutinee 0)]) false ([] : List Zc) ([] : List Zo) ([] : List Zi))]).map Zo.cells)), (none, .sl (([(Zi.mk 4 (ByteArray.mk #[]) 0 ([] : List ByteArray) e)]).map Zi.cells))])]⟩
theorem Zig (scrutinee : ByteArray) (name_ : ByteArray) (ZeW : (List ByteArray)) (r24 : ((List ByteArray))) (ZkR : Nat) (e : Zo) (Zgz : (List ByteArray)) : ∀ r, Zat scrutinee name_ ZeW r24 ZkR e Zgz = some r → Zat.M scrutinee name_ ZeW r24 ZkR e Zgz r := by
 refine Zat.partial_correctness scrutinee name_ r24 e (fun ZeW ZkR Zgz r => Zat.M scrutinee name_ ZeW r24 ZkR e Zgz r) ?_ ZeW ZkR Zgz
 intro lazyclaw36_StgBinder_l1' Zfo ZeW ZkR Zgz r hF
 have ZfI := fun (_scrutinee : ByteArray) (_name_ : ByteArray) (ZeW : (List ByteArray)) (_r24 : ((List ByteArray))) (ZkR : Nat) (_e : Zo) (Zgz : (List ByteArray)) => Zfo ZeW ZkR Zgz
 clear Zfo
 unfold Zat.M
 intro ZkU ZqL Zq7 hlen25
 refine AWL.step ?_
 refine AWP.seq ?_
 refine ns ?_
 refine AWP.seq ?_
 refine nw ?_
 refine ZB ZqL Zq7 (fun x37 Zvv Zxl ZCv ZAN => ?_) (fun Zxl => ?_)
 ·subst Zxl
  refine nw ?_
  refine AWP.seq ?_
  refine AWP.block ?_
  refine AWP.seq ?_
  refine nn ?_
  refine sr (Z9 (f := c_S) rfl ZCv) ?_
  refine st ?_
  refine AWP.seq ?_
  refine AWP.cutN (fun T => ∃ r, WS r T ⟨[(1, .c none (.v (.string scrutinee))), (2, .c none (.v (.string name_))), (3, .ptr 3 0), (8, .ptr 8 0), (9, .c (some (9, 9)) (.sl (ZeW.map c_S))), (11, .c none (.v (.string x37))), (30, .c (some (30, 9)) (.sl (r24.map c_S))), (31, .c none (.v (.int .i64 ((r24.length : Nat) : Int)))), (32, .c none (.v (.int .i64 ((ZkR : Nat) : Int)))), (43, .c none (.v (.bool ((!(x37.toList == name_.toList)) && (!(x37.toList == scrutinee.toList))))))], [(3, [(none, .v (.int .i64 e.fOp)), (none, .v (.string e.fName)), (none, .sl (e.fArgs.map Zq.cells)), (none, .v (.bool e.fRec)), (none, .sl (e.fBinds.map Zc.cells)), (none, .sl (e.fKids.map Zo.cells)), (none, .sl (e.fAlts.map Zi.cells))]), (8, [(none, .v (.int .i64 6)), (none, .v (.string name_)), (none, .nils), (none, .v (.bool false)), (none, .nils), (none, .sl (([(Zo.mk 1 (ByteArray.mk #[]) ([(Zq.mk 1 scrutinee 0)]) false ([] : List Zc) ([] : List Zo) ([] : List Zi))]).map Zo.cells)), (none, .sl (([(Zi.mk 4 (ByteArray.mk #[]) 0 ([] : List ByteArray) e)]).map Zi.cells))])]⟩) ?_ (fun T hw => ?_)
  ·refine ns ?_
   refine ZA true (fun Zxg => ?_) (fun Zxg => ?_)
   ·(conv => whnf)
    refine st ?_
    exact Exists.intro (rn [(9, 9), (30, 30)]) (WS.mk (tc (tc (tp (tp (Zj (ZH rfl (WE.refl _)) (tc (Zj (ZH rfl (WE.refl _)) (tc (tc (Zj (Zaj (web Zxg)) Ze)))))))))) (Za rfl (cc (cc (cc (cc (cc (cc (cc Zb))))))) (Za rfl (cc (cc (cc (cc (cc (cc (cc Zb))))))) Zf)))
   ·(conv => whnf)
    refine st ?_
    exact Exists.intro (rn [(9, 9), (30, 30)]) (WS.mk (tc (tc (tp (tp (Zj (ZH rfl (WE.refl _)) (tc (Zj (ZH rfl (WE.refl _)) (tc (tc (Zj (Zaj (web Zxg)) Ze)))))))))) (Za rfl (cc (cc (cc (cc (cc (cc (cc Zb))))))) (Za rfl (cc (cc (cc (cc (cc (cc (cc Zb))))))) Zf)))
  obtain ⟨r0, hw⟩ := hw
  (conv => whnf)
  refine AWP.weak r0 hw ?_
  refine nw ?_
  refine Zw hF (fun ZBf hF => ?_) (fun ZBf hF => ?_)
  ·obtain ⟨ZB5, hF⟩ := ZV hF
   refine ns ?_
   refine Exists.intro _ (And.intro (ZE (f := c_S) (lc Zr) (Zx (f := c_S))) ?_)
   refine sa (fun l => ZaE l (fun x => Zbk x)) ZB5 ?_
   refine Exists.intro _ (And.intro (WE.refl _) ?_)
   rw [← List.map_append]
   refine st ?_
   refine ns ?_
   refine AWL.weak (rn [(30, 30), (47, 9)]) ?_ (ZfI scrutinee name_ (ZeW ++ ([x37])) r24 (ZkR + 1) e Zvv _ hF (ZkU ++ [x37]) (by rw [ZqL]; simp) (by rw [Zq7]; simp) hlen25)
   exact (WS.mk (tc (tc (tp (tp (Zj (ZH rfl (WE.refl _)) (Zj (ZH rfl (WE.refl _)) (tc (Zj (Zaj (Zcw (ZD hlen25 ZAN))) Ze)))))))) (Za rfl (cc (cc (cc (cc (cc (cc (cc Zb))))))) (Za rfl (cc (cc (cc (cc (cc (cc (cc Zb))))))) Zf)))
  ·refine nw ?_
   refine ns ?_
   refine AWL.weak (rn [(9, 9), (30, 30)]) ?_ (ZfI scrutinee name_ ZeW r24 (ZkR + 1) e Zvv _ hF (ZkU ++ [x37]) (by rw [ZqL]; simp) (by rw [Zq7]; simp) hlen25)
   exact (WS.mk (tc (tc (tp (tp (Zj (ZH rfl (WE.refl _)) (Zj (ZH rfl (WE.refl _)) (tc (Zj (Zaj (Zcw (ZD hlen25 ZAN))) Ze)))))))) (Za rfl (cc (cc (cc (cc (cc (cc (cc Zb))))))) (Za rfl (cc (cc (cc (cc (cc (cc (cc Zb))))))) Zf)))
 ·subst Zxl
  refine nw ?_
  refine AWP.seq ?_
  obtain ⟨r50, ZBT, hF⟩ := bind_some hF
  obtain ⟨r51, Zx0, hF⟩ := bind_some hF
  obtain ⟨c54, ZpU, hF⟩ := bind_some hF
  obtain ⟨c56, ZpC, hF⟩ := bind_some hF
  refine AWP.cutN (fun T => ∃ r, WS r T ⟨[(6, .c none (.v (.bool c56)))], []⟩) ?_ (fun T hw => ?_)
  ·refine nn ?_
   refine Or.inl (Or.inl (Exists.intro 8 (Exists.intro [[], [], [], [], [], [], [], []] (Exists.intro [([49, 50, 51, 52, 53, 54, 55, 56], [], []), ([50, 51, 52, 53, 54, 55, 56], [], []), ([49, 50, 51, 52, 53, 54, 55, 56], [], []), ([52, 53, 54, 55, 56], [], []), ([53, 54, 55, 56], [], []), ([54, 55, 56], [], []), ([55, 56], [], []), ([54, 55, 56], [], [])] (Exists.intro [49, 50, 51, 52, 53, 54, 55, 56] (And.intro (by decide +kernel) ?_))))))
   refine dp ?_
   (refine st ?_; apply Exists.intro; apply Exists.intro; apply And.intro; (focus ((conv => whnf); refine Exists.intro [] ?_; (conv => whnf); refine And.intro rfl ?_; (conv => whnf); refine Zn.mono (Zn.weak (rn []) (ZiR (Zo.mk 6 name_ ([] : List Zq) false ([] : List Zc) ([(Zo.mk 1 (ByteArray.mk #[]) ([(Zq.mk 1 scrutinee 0)]) false ([] : List Zc) ([] : List Zo) ([] : List Zi))]) ([(Zi.mk 4 (ByteArray.mk #[]) 0 ([] : List ByteArray) e)])) _ ZBT) rfl (WS.mk (Zj (ZaM (lc (lc (ZdO WE.nil (lc (ZdO WE.nil (lc (lc Zr)))))))) Ze) Zf)) ?_; rintro d b ⟨rfl, rfl⟩; exact And.intro rfl (And.intro rfl rfl))); apply And.intro; (focus exact rfl); (conv => whnf))
   refine dp ?_
   (refine st ?_; apply Exists.intro; apply Exists.intro; apply And.intro; (focus ((conv => whnf); refine Exists.intro [] ?_; (conv => whnf); refine And.intro rfl ?_; (conv => whnf); refine Zn.mono (Zn.weak (rn []) (Zib r50 ZeW _ Zx0) rfl (WS.mk (tc (tc Ze)) Zf)) ?_; rintro d b ⟨rfl, rfl⟩; exact And.intro rfl (And.intro rfl rfl))); apply And.intro; (focus exact rfl); (conv => whnf))
   refine dp ?_
   refine st ?_
   refine ZA true (fun Zj1 => ?_) (fun Zj1 => ?_)
   ·have ZpU := ift Zj1 ZpU
    obtain ⟨r52, ZA8, ZpU⟩ := bind_some ZpU
    obtain ⟨r53, ZCq, ZpU⟩ := bind_some ZpU
    (conv => whnf)
    refine dp ?_
    (refine st ?_; apply Exists.intro; apply Exists.intro; apply And.intro; (focus ((conv => whnf); refine Exists.intro [] ?_; (conv => whnf); refine And.intro rfl ?_; (conv => whnf); refine Zn.mono (Zn.weak (rn []) (ZhR (Zo.mk 6 name_ ([] : List Zq) false ([] : List Zc) ([(Zo.mk 1 (ByteArray.mk #[]) ([(Zq.mk 1 scrutinee 0)]) false ([] : List Zc) ([] : List Zo) ([] : List Zi))]) ([(Zi.mk 4 (ByteArray.mk #[]) 0 ([] : List ByteArray) e)])) _ ZA8) rfl (WS.mk (Zj (ZaM (ZdO (wei Zj1) (lc (ZdO WE.nil (ZdO (web Zj1) (ZdO WE.nil (lc (lc Zr)))))))) Ze) Zf)) ?_; rintro d b ⟨rfl, rfl⟩; exact And.intro rfl (And.intro rfl rfl))); apply And.intro; (focus exact rfl); (conv => whnf))
    refine dp ?_
    refine st ?_
    refine e3 ?_
    refine st ?_
    refine cm (Zn.weak (rn []) (ZhR e _ ZCq) rfl (WS.mk (Zj (ZaM (lc (lc (lc (lc (lc (lc (lc Zr)))))))) Ze) Zf)) ?_
    refine st ?_
    obtain rfl := Zs ZpU
    refine st ?_
    refine ZA true (fun ZqW => ?_) (fun ZqW => ?_)
    ·have ZpC := ift (And.intro Zj1 ZqW) ZpC
     obtain ⟨r55, Zyt, ZpC⟩ := bind_some ZpC
     (conv => whnf)
     refine st ?_
     refine e3 ?_
     refine st ?_
     refine cm (Zn.weak (rn []) (Zeh _ Zyt) rfl (WS.mk Ze Zf)) ?_
     refine st ?_
     obtain rfl := Zs ZpC
     refine st ?_
     exact wx (WS.mk (Zj (Zaj (web (And.intro Zj1 ZqW))) Ze) Zf)
    ·have ZpC := ife (And.intro Zj1 ZqW) ZpC
     (conv => whnf)
     obtain rfl := Zs ZpC
     refine st ?_
     exact wx (WS.mk (Zj (Zaj (web (And.intro Zj1 ZqW))) Ze) Zf)
   ·have ZpU := ife Zj1 ZpU
    (conv => whnf)
    obtain rfl := Zs ZpU
    have ZpC := ife Zj1 ZpC
    obtain rfl := Zs ZpC
    refine st ?_
    exact wx (WS.mk (Zj (Zaj (web Zj1)) Ze) Zf)
  obtain ⟨r0, hw⟩ := hw
  (conv => whnf)
  refine AWP.weak r0 hw ?_
  obtain rfl := Zs hF
  refine ns ?_
  refine Exists.intro [] ?_
  refine st ?_
  exact wx (WS.mk (tc Ze) Zf)

def Zb7 (e : Zo) (scrutinee : ByteArray) (name_ : ByteArray) : Option (Bool) :=
 Zdc e >>= fun r4 =>
 if (!r4) = true then
 Zbf >>= fun r6 =>
 some r6
 else
 Zet e >>= fun r24 =>
 Zat scrutinee name_ ([scrutinee]) r24 0 e r24
def Zb7.M (e : Zo) (scrutinee : ByteArray) (name_ : ByteArray) (r : Bool) : Prop :=
 Zn Tryz.prog 5 [.agg [.v (.int .i64 e.fOp), .v (.string e.fName), .sl (e.fArgs.map Zq.cells), .v (.bool e.fRec), .sl (e.fBinds.map Zc.cells), .sl (e.fKids.map Zo.cells), .sl (e.fAlts.map Zi.cells)], .c none (.v (.string scrutinee)), .c none (.v (.string name_))] [] (fun d b => d = .c none (.v (.bool r)) ∧ b = [])
theorem ZjE (e : Zo) (scrutinee : ByteArray) (name_ : ByteArray) (r : Bool) (hF : Zb7 e scrutinee name_ = some r) : Zb7.M e scrutinee name_ r := by
 unfold Zb7 at hF
 unfold Zb7.M
 refine en Tryz.func5 ?_
 refine AWP.seq ?_
 refine ns ?_
 refine AWP.seq ?_
 refine AWP.seq ?_
 obtain ⟨r4, hr4, hF⟩ := bind_some hF
 refine ns ?_
 refine e3 ?_
 refine st ?_
 refine cm (Zn.weak (rn []) (ZiT e _ hr4) rfl (WS.mk (Zj (ZaM (lc (lc (lc (lc (lc (lc (lc Zr)))))))) Ze) Zf)) ?_
 refine st ?_
 refine nw ?_
 refine Zw hF (fun hc5 hF => ?_) (fun hc5 hF => ?_)
 ·refine AWP.seq ?_
  obtain ⟨r6, hr6, hF⟩ := bind_some hF
  refine ns ?_
  refine e3 ?_
  refine st ?_
  refine cm (Zn.weak (rn []) (Zeh _ hr6) rfl (WS.mk Ze Zf)) ?_
  refine st ?_
  obtain rfl := Zs hF
  refine ns ?_
  refine Exists.intro [] ?_
  refine st ?_
  exact wx (WS.mk (tc Ze) Zf)
 ·refine nw ?_
  refine AWP.seq ?_
  refine ns ?_
  refine Exists.intro _ (And.intro (ZE (f := Zq.cells) (Zkp (Zq.cells_eq (Zq.mk 1 scrutinee 0)) (lc (lc (lc Zr)))) (Zx (f := Zq.cells))) ?_)
  refine st ?_
  refine AWP.seq ?_
  refine ns ?_
  refine Exists.intro _ (And.intro (ZE (f := Zo.cells) (Zkp (Zo.cells_eq (Zo.mk 1 (ByteArray.mk #[]) ([(Zq.mk 1 scrutinee 0)]) false ([] : List Zc) ([] : List Zo) ([] : List Zi))) (lc (lc (lc (lc (ZdO WE.nil (ZdO WE.nil (ZdO WE.nil Zr)))))))) (Zx (f := Zo.cells))) ?_)
  refine st ?_
  refine Exists.intro _ (And.intro (ZE (f := Zi.cells) (Zkp (Zi.cells_eq (Zi.mk 4 (ByteArray.mk #[]) 0 ([] : List ByteArray) e)) (lc (lc (lc (ZdO WE.nil (lc (lc (lc (lc (lc (lc (lc Zr)))))))))))) (Zx (f := Zi.cells))) ?_)
  refine st ?_
  refine AWP.seq ?_
  refine ns ?_
  refine Exists.intro _ (And.intro (ZE (f := c_S) (lc Zr) (Zx (f := c_S))) ?_)
  refine st ?_
  refine AWP.seq ?_
  refine AWP.seq ?_
  obtain ⟨r24, ZBY, hF⟩ := bind_some hF
  refine ns ?_
  refine e3 ?_
  refine st ?_
  refine cm (Zn.weak (rn []) (ZiR e _ ZBY) rfl (WS.mk (Zj (ZaM (lc (lc (lc (lc (lc (lc (lc Zr)))))))) Ze) Zf)) ?_
  refine st ?_
  intro hlen25
  (try rw [List.length_map] at hlen25)
  (try rw [List.length_map])
  refine st ?_
  refine AWP.block ?_
  refine AWP.loop ?_
  refine AWL.weak (rn [(28, 9), (30, 30)]) ?_ (Zig scrutinee name_ ([scrutinee]) r24 0 e r24 _ hF ([]) rfl rfl hlen25)
  exact (WS.mk (tc (tc (tp (tp (Zj (ZH rfl (WE.refl _)) (Zj (ZH rfl (WE.refl _)) (tc (tc Ze)))))))) (Za rfl (cc (cc (cc (cc (cc (cc (cc Zb))))))) (Za rfl (cc (cc (cc (cc (cc (cc (cc Zb))))))) Zf)))

theorem ZC {α β : Type} (x : α) (f : α → Option β) : (some x >>= f) = f x := rfl
theorem Zd6 {p : Prop} [Decidable p] {β : Type} (f : Unit → Option β) (h : p) : (ZaY p >>= f) = f () := by unfold ZaY; rw [if_pos h]; rfl
theorem ifT {α : Type} (a b : α) : (if true = true then a else b) = a := rfl
theorem ifF {α : Type} (a b : α) : (if false = true then a else b) = b := rfl
theorem w64 {x : Int} (h : -9223372036854775808 ≤ x) (h' : x ≤ 9223372036854775807) : IntKind.i64.wrap x = x := IntWalk.i64_in x ⟨h, by omega⟩
theorem Zt2 {a b : ByteArray} (h : a.data.toList = b.data.toList) : a = b := by
 obtain ⟨⟨l⟩⟩ := a; obtain ⟨⟨k⟩⟩ := b
 simp only at h; rw [h]
theorem Zri (s : ByteArray) : s.toList = s.data.toList := by
 have key : ∀ (n i : Nat) (r : List UInt8), s.size - i = n → ByteArray.toList.loop s i r = r.reverse ++ s.data.toList.drop i := by
  intro n
  induction n with
  | zero =>
   intro i r h
   rw [ByteArray.toList.loop, if_neg (by omega), List.drop_eq_nil_of_le (by show s.data.toList.length ≤ i; simp; have : s.data.size = s.size := rfl; omega), List.append_nil]
  | succ n ih =>
   intro i r h
   have hi : i < s.size := by omega
   rw [ByteArray.toList.loop, if_pos hi, ih (i + 1) _ (by omega)]
   have hd : s.data.toList.drop i = s.data.toList[i]'(by simpa using hi) :: s.data.toList.drop (i + 1) := (List.drop_eq_getElem_cons (by simpa using hi))
   rw [hd]
   have : s.get! i = s.data.toList[i]'(by simpa using hi) := by
    have hi' : i < s.data.size := hi
    show s.data[i]! = _
    rw [getElem!_pos s.data i hi']; simp
   rw [this]; simp
 show ByteArray.toList.loop s 0 [] = _
 rw [key _ 0 [] rfl]; simp
theorem ZjF (a b : ByteArray) : (a.toList == b.toList) = decide (a = b) := by
 rw [Bool.eq_iff_iff]
 simp only [beq_iff_eq, decide_eq_true_eq, Zri]
 exact ⟨Zt2, fun h => by rw [h]⟩
def Zo.vol (e : Zo) : Nat := ZbR e.cells
def Zc.vol (e : Zc) : Nat := ZbR e.cells
def Zi.vol (e : Zi) : Nat := ZbR e.cells
theorem Zgm {α : Type} {f : α → List E} {x : α} : ∀ {l : List α}, x ∈ l → ZbR (f x) ≤ ZeM (l.map f)
 | y :: l, h => by
  rw [List.map_cons, ZeM]
  rcases List.mem_cons.1 h with rfl | h
  ·omega
  ·have := Zgm (f := f) h; omega
theorem Zjh {α : Type} {f : α → List E} (x : α) (l : List α) : ZeM ((x :: l).map f) = ZbR (f x) + ZeM (l.map f) := by rw [List.map_cons, ZeM]
def sB (l : List ByteArray) : Nat := ZeM (l.map c_S)
def aB (l : List Zq) : Nat := ZeM (l.map Zq.cells)
def bB (l : List Zc) : Nat := ZeM (l.map Zc.cells)
def kB (l : List Zo) : Nat := ZeM (l.map Zo.cells)
def lB (l : List Zi) : Nat := ZeM (l.map Zi.cells)
theorem Zpk (e : Zo) : e.vol = e.fName.size + aB e.fArgs + bB e.fBinds + kB e.fKids + lB e.fAlts + 7 := by
 unfold Zo.vol aB bB kB lB
 rw [Zo.cells_eq]
 simp only [ZbR, Zku]
 omega
theorem ZiL (b : Zc) : b.vol = b.fName.size + sB b.fFree + sB b.fParams + b.fBody.vol + 4 := by
 unfold Zc.vol Zo.vol sB
 rw [Zc.cells_eq, Zo.cells_eq]
 simp only [ZbR, Zku]
 omega
theorem Zkc (b : Zi) : b.vol = b.fName.size + sB b.fVars + b.fBody.vol + 4 := by
 unfold Zi.vol Zo.vol sB
 rw [Zi.cells_eq, Zo.cells_eq]
 simp only [ZbR, Zku]
 omega
theorem Ztc (a : Zq) (l : List Zq) : aB (a :: l) = a.fName.size + 3 + aB l := by
 unfold aB; rw [Zjh]; simp only [Zq.cells, ZbR, Zku]; omega
theorem Zlt (b : Zc) (l : List Zc) : bB (b :: l) = b.vol + bB l := Zjh b l
theorem ZmZ (b : Zo) (l : List Zo) : kB (b :: l) = b.vol + kB l := Zjh b l
theorem Zlw (b : Zi) (l : List Zi) : lB (b :: l) = b.vol + lB l := Zjh b l
theorem Zwy (b : ByteArray) (l : List ByteArray) : sB (b :: l) = b.size + 1 + sB l := by
 unfold sB; rw [Zjh]; simp only [c_S, ZbR, Zku]
theorem Zpt : ∀ l : List ByteArray, l.length ≤ sB l
 | [] => Nat.zero_le _
 | x :: l => by rw [Zwy, List.length_cons]; have := Zpt l; omega
theorem Zsm : ∀ l : List Zq, l.length ≤ aB l
 | [] => Nat.zero_le _
 | x :: l => by rw [Ztc, List.length_cons]; have := Zsm l; omega
theorem ZvL : ∀ l : List Zc, l.length ≤ bB l
 | [] => Nat.zero_le _
 | x :: l => by rw [Zlt, List.length_cons]; have := ZvL l; have := ZiL x; omega
theorem ZyN {M : Zo → Prop} (h : ∀ e, (∀ x : Zo, x.vol < e.vol → M x) → M e) (e : Zo) : M e := by
 have key : ∀ (n : Nat) (e : Zo), e.vol < n → M e := by
  intro n
  induction n with
  | zero => intro e he; omega
  | succ n ih => intro e he; exact h e fun x hx => ih x (by omega)
 exact key (e.vol + 1) e (by omega)
theorem Zm7 (e : Zo) (hv : e.vol ≤ 1000000000) : ∃ n : Nat, n ≤ e.vol ∧ ZaV e = some ((n : Nat) : Int) ∧ ZaJ e = some ((n : Nat) : Int) := by
 revert hv
 refine ZyN (M := fun e => e.vol ≤ 1000000000 → ∃ n : Nat, n ≤ e.vol ∧ ZaV e = some ((n : Nat) : Int) ∧ ZaJ e = some ((n : Nat) : Int)) (fun e ih hv => ?_) e
 have hve := Zpk e
 have h3 : ∀ (l : List Zo) (n i : Nat), (∀ x ∈ l, x.vol < e.vol) → n + kB l ≤ 1000000000 → ∃ m : Nat, m ≤ n + kB l ∧ ZbK n e i l = some ((m : Nat) : Int) ∧ ZbQ n i e l = some ((m : Nat) : Int) := by
  intro l
  induction l with
  | nil => intro n i _ _; exact ⟨n, by omega, by rw [ZbK], by rw [ZbQ]⟩
  | cons x l ih2 =>
   intro n i hl hn
   rw [ZmZ] at hn
   obtain ⟨k, hk, k1, k2⟩ := ih x (hl x (by simp)) (by omega)
   obtain ⟨m, hm, m1, m2⟩ := ih2 (n + k) (i + 1) (fun y hy => hl y (by simp [hy])) (by omega)
   have hw : IntKind.i64.wrap (((n : Nat) : Int) + ((k : Nat) : Int)) = ((n + k : Nat) : Int) := by rw [w64 (by omega) (by omega)]; omega
   refine ⟨m, by rw [ZmZ]; omega, ?_, ?_⟩
   ·rw [ZbK]; show (ZaV x >>= _) = _; rw [k1, ZC, hw, m1]
   ·rw [ZbQ]; show (ZaJ x >>= _) = _; rw [k2, ZC, hw, m2]
 have h2 : ∀ (l : List Zi) (n i : Nat), (∀ x ∈ l, x.fBody.vol < e.vol) → n + lB l + kB e.fKids ≤ 1000000000 → ∃ m : Nat, m ≤ n + lB l + kB e.fKids ∧ ZbH n e i l = some ((m : Nat) : Int) ∧ ZbP n i e l = some ((m : Nat) : Int) := by
  intro l
  induction l with
  | nil =>
   intro n i _ hn
   obtain ⟨m, hm, m1, m2⟩ := h3 e.fKids n 0 (fun x hx => by have := Zgm (f := Zo.cells) hx; have h : x.vol ≤ kB e.fKids := this; omega) (by unfold lB at hn; simp [ZeM] at hn; omega)
   exact ⟨m, by unfold lB; simp [ZeM]; omega, by rw [ZbH]; exact m1, by rw [ZbP]; exact m2⟩
  | cons x l ih2 =>
   intro n i hl hn
   rw [Zlw] at hn
   have hx := Zkc x
   obtain ⟨k, hk, k1, k2⟩ := ih x.fBody (hl x (by simp)) (by omega)
   obtain ⟨m, hm, m1, m2⟩ := ih2 (n + 1 + k) (i + 1) (fun y hy => hl y (by simp [hy])) (by omega)
   have hw : IntKind.i64.wrap (((n : Nat) : Int) + IntKind.i64.wrap (1 + ((k : Nat) : Int))) = ((n + 1 + k : Nat) : Int) := by rw [w64 (x := 1 + ((k : Nat) : Int)) (by omega) (by omega), w64 (by omega) (by omega)]; omega
   have hw2 : IntKind.i64.wrap (IntKind.i64.wrap (((n : Nat) : Int) + 1) + ((k : Nat) : Int)) = ((n + 1 + k : Nat) : Int) := by rw [w64 (x := ((n : Nat) : Int) + 1) (by omega) (by omega), w64 (by omega) (by omega)]; omega
   refine ⟨m, by rw [Zlw]; omega, ?_, ?_⟩
   ·rw [ZbH]; show (ZaV x.fBody >>= _) = _; rw [k1, ZC, hw, m1]
   ·rw [ZbP]; show (ZaJ x.fBody >>= _) = _; rw [k2, ZC, hw2, m2]
 have h1 : ∀ (l : List Zc) (n i : Nat), (∀ x ∈ l, x.fBody.vol < e.vol) → n + bB l + lB e.fAlts + kB e.fKids ≤ 1000000000 → ∃ m : Nat, m ≤ n + bB l + lB e.fAlts + kB e.fKids ∧ ZbT n e i l = some ((m : Nat) : Int) ∧ ZbO n i e l = some ((m : Nat) : Int) := by
  intro l
  induction l with
  | nil =>
   intro n i _ hn
   obtain ⟨m, hm, m1, m2⟩ := h2 e.fAlts n 0 (fun x hx => by have := Zgm (f := Zi.cells) hx; have h : x.vol ≤ lB e.fAlts := this; have := Zkc x; omega) (by unfold bB at hn; simp [ZeM] at hn; omega)
   exact ⟨m, by unfold bB; simp [ZeM]; omega, by rw [ZbT]; exact m1, by rw [ZbO]; exact m2⟩
  | cons x l ih2 =>
   intro n i hl hn
   rw [Zlt] at hn
   have hx := ZiL x
   obtain ⟨k, hk, k1, k2⟩ := ih x.fBody (hl x (by simp)) (by omega)
   obtain ⟨m, hm, m1, m2⟩ := ih2 (n + 1 + k) (i + 1) (fun y hy => hl y (by simp [hy])) (by omega)
   have hw : IntKind.i64.wrap (((n : Nat) : Int) + IntKind.i64.wrap (1 + ((k : Nat) : Int))) = ((n + 1 + k : Nat) : Int) := by rw [w64 (x := 1 + ((k : Nat) : Int)) (by omega) (by omega), w64 (by omega) (by omega)]; omega
   have hw2 : IntKind.i64.wrap (IntKind.i64.wrap (((n : Nat) : Int) + 1) + ((k : Nat) : Int)) = ((n + 1 + k : Nat) : Int) := by rw [w64 (x := ((n : Nat) : Int) + 1) (by omega) (by omega), w64 (by omega) (by omega)]; omega
   refine ⟨m, by rw [Zlt]; omega, ?_, ?_⟩
   ·rw [ZbT]; show (ZaV x.fBody >>= _) = _; rw [k1, ZC, hw, m1]
   ·rw [ZbO]; show (ZaJ x.fBody >>= _) = _; rw [k2, ZC, hw2, m2]
 have ha := Zsm e.fArgs
 obtain ⟨m, hm, m1, m2⟩ := h1 e.fBinds (1 + e.fArgs.length) 0 (fun x hx => by have := Zgm (f := Zc.cells) hx; have h : x.vol ≤ bB e.fBinds := this; have := ZiL x; omega) (by omega)
 have hw : IntKind.i64.wrap (1 + ((e.fArgs.length : Nat) : Int)) = ((1 + e.fArgs.length : Nat) : Int) := by rw [w64 (by omega) (by omega)]; omega
 refine ⟨m, by omega, ?_, ?_⟩
 ·rw [ZaV, hw, m1]
 ·rw [ZaJ, hw, m2]
theorem Zwz (e : Zo) (hv : e.vol ≤ 1000000000) : ∃ n : Nat, n ≤ e.vol ∧ Zao e = some ((n : Nat) : Int) := by
 revert hv
 refine ZyN (M := fun e => e.vol ≤ 1000000000 → ∃ n : Nat, n ≤ e.vol ∧ Zao e = some ((n : Nat) : Int)) (fun e ih hv => ?_) e
 have hve := Zpk e
 have mx : ∀ a b : Nat, (if ((a : Nat) : Int) > ((b : Nat) : Int) then ((a : Nat) : Int) else ((b : Nat) : Int)) = ((max a b : Nat) : Int) := by
  intro a b
  by_cases h : ((a : Nat) : Int) > ((b : Nat) : Int)
  ·rw [if_pos h]; omega
  ·rw [if_neg h]; omega
 have h3 : ∀ (l : List Zo) (n i : Nat), (∀ x ∈ l, x.vol < e.vol) → n < e.vol → ∃ m : Nat, m ≤ e.vol ∧ Zbb n i e l = some ((m : Nat) : Int) := by
  intro l
  induction l with
  | nil => intro n i _ hn; exact ⟨n + 1, by omega, by rw [Zbb]; show some _ = _; rw [w64 (by omega) (by omega)]; rfl⟩
  | cons x l ih2 =>
   intro n i hl hn
   have hx := hl x (by simp)
   obtain ⟨k, hk, k1⟩ := ih x hx (by omega)
   obtain ⟨m, hm, m1⟩ := ih2 (max k n) (i + 1) (fun y hy => hl y (by simp [hy])) (by omega)
   refine ⟨m, hm, ?_⟩
   rw [Zbb]; show (Zao x >>= _) = _; rw [k1, ZC, mx, m1]
 have h2 : ∀ (l : List Zi) (n i : Nat), (∀ x ∈ l, x.fBody.vol < e.vol) → n < e.vol → ∃ m : Nat, m ≤ e.vol ∧ Za9 n i e l = some ((m : Nat) : Int) := by
  intro l
  induction l with
  | nil =>
   intro n i _ hn
   obtain ⟨m, hm, m1⟩ := h3 e.fKids n 0 (fun x hx => by have := Zgm (f := Zo.cells) hx; have h : x.vol ≤ kB e.fKids := this; omega) hn
   exact ⟨m, hm, by rw [Za9]; exact m1⟩
  | cons x l ih2 =>
   intro n i hl hn
   have hx := hl x (by simp)
   obtain ⟨k, hk, k1⟩ := ih x.fBody hx (by omega)
   obtain ⟨m, hm, m1⟩ := ih2 (max k n) (i + 1) (fun y hy => hl y (by simp [hy])) (by omega)
   refine ⟨m, hm, ?_⟩
   rw [Za9]; show (Zao x.fBody >>= _) = _; rw [k1, ZC, mx, m1]
 have h1 : ∀ (l : List Zc) (n i : Nat), (∀ x ∈ l, x.fBody.vol < e.vol) → n < e.vol → ∃ m : Nat, m ≤ e.vol ∧ Zbd n i e l = some ((m : Nat) : Int) := by
  intro l
  induction l with
  | nil =>
   intro n i _ hn
   obtain ⟨m, hm, m1⟩ := h2 e.fAlts n 0 (fun x hx => by have := Zgm (f := Zi.cells) hx; have h : x.vol ≤ lB e.fAlts := this; have := Zkc x; omega) hn
   exact ⟨m, hm, by rw [Zbd]; exact m1⟩
  | cons x l ih2 =>
   intro n i hl hn
   have hx := hl x (by simp)
   obtain ⟨k, hk, k1⟩ := ih x.fBody hx (by omega)
   obtain ⟨m, hm, m1⟩ := ih2 (max k n) (i + 1) (fun y hy => hl y (by simp [hy])) (by omega)
   refine ⟨m, hm, ?_⟩
   rw [Zbd]; show (Zao x.fBody >>= _) = _; rw [k1, ZC, mx, m1]
 obtain ⟨m, hm, m1⟩ := h1 e.fBinds 0 0 (fun x hx => by have := Zgm (f := Zc.cells) hx; have h : x.vol ≤ bB e.fBinds := this; have := ZiL x; omega) (by omega)
 exact ⟨m, hm, by rw [Zao]; exact m1⟩

theorem Zrj (a b : ByteArray) : (a == b) = decide (a = b) := by
 obtain ⟨x⟩ := a; obtain ⟨y⟩ := b
 rw [Bool.eq_iff_iff]
 show ((x == y) = true ↔ _)
 simp
instance lawB : LawfulBEq ByteArray where
 eq_of_beq h := by rw [Zrj] at h; exact of_decide_eq_true h
 rfl {a} := (Zrj a a).trans (decide_eq_true rfl)
theorem Zl7 {β : Type} (x k : ByteArray) (v : β) : ∀ c : List (ByteArray × β), Zg6 x (ZcQ c k v) = if x = k then some v else Zg6 x c
 | [] => by
  rw [ZcQ, Zg6, Zg6, Zrj]
  by_cases h : x = k
  ·rw [decide_eq_true h, ifT, if_pos h]
  ·rw [decide_eq_false h, ifF, if_neg h]; rfl
 | p :: c => by
  rw [ZcQ, Zrj]
  by_cases hk : k = p.1
  ·rw [decide_eq_true hk, ifT, Zg6, Zg6, Zrj, Zrj]
   by_cases h : x = k
   ·rw [decide_eq_true h, ifT, if_pos h]
   ·rw [decide_eq_false h, ifF, if_neg h, decide_eq_false (fun e => h (e.trans hk.symm)), ifF]
  ·rw [decide_eq_false hk, ifF, Zg6, Zg6, Zrj, Zl7 x k v c]
   by_cases h : x = p.1
   ·rw [decide_eq_true h, ifT, ifT, if_neg (fun e => hk (e.symm.trans h))]
   ·rw [decide_eq_false h, ifF, ifF]
abbrev CM := List (ByteArray × Int)
def bg (m : CM) (x : ByteArray) : Int := (Zg6 x m).getD 0
def sg (m : List (ByteArray × Bool)) (x : ByteArray) : Bool := (Zg6 x m).getD false
theorem Zeg (m : CM) (x : ByteArray) : ∃ b, Zcf m 0 x = some (bg m x, b) := by
 unfold Zcf bg
 cases Zg6 x m with
 | some v => exact ⟨true, rfl⟩
 | none => exact ⟨false, rfl⟩
theorem ZrX (m : List (ByteArray × Bool)) (x : ByteArray) : ∃ b, Zcf m false x = some (sg m x, b) := by
 unfold Zcf sg
 cases Zg6 x m with
 | some v => exact ⟨true, rfl⟩
 | none => exact ⟨false, rfl⟩
theorem Zq6 (m : CM) (k : ByteArray) (v : Int) (x : ByteArray) : bg (ZcQ m k v) x = if x = k then v else bg m x := by
 unfold bg; rw [Zl7]; by_cases h : x = k
 ·rw [if_pos h, if_pos h]; rfl
 ·rw [if_neg h, if_neg h]
theorem Zu6 (m : List (ByteArray × Bool)) (k : ByteArray) (v : Bool) (x : ByteArray) : sg (ZcQ m k v) x = if x = k then v else sg m x := by
 unfold sg; rw [Zl7]; by_cases h : x = k
 ·rw [if_pos h, if_pos h]; rfl
 ·rw [if_neg h, if_neg h]
def cnt (x : ByteArray) : List ByteArray → Int
 | [] => 0
 | y :: l => (if x = y then 1 else 0) + cnt x l
theorem ZrN (x y : ByteArray) (l : List ByteArray) : cnt x (y :: l) = (if x = y then 1 else 0) + cnt x l := rfl
def upM (m : CM) : List ByteArray → CM
 | [] => m
 | y :: l => upM (ZcQ m y (IntKind.i64.wrap (bg m y + 1))) l
def dnM (m : CM) : List ByteArray → CM
 | [] => m
 | y :: l => dnM (ZcQ m y (IntKind.i64.wrap (bg m y - 1))) l
theorem ZoA (x : ByteArray) : ∀ l, 0 ≤ cnt x l
 | [] => Int.le_refl _
 | y :: l => by unfold cnt; have := ZoA x l; split <;> omega
theorem Zsu (x : ByteArray) : ∀ l, cnt x l ≤ l.length
 | [] => Int.le_refl _
 | y :: l => by unfold cnt; have := Zsu x l; rw [List.length_cons]; split <;> omega
theorem ZtD (x : ByteArray) : ∀ l, cnt x l ≠ 0 ↔ x ∈ l
 | [] => by simp [cnt]
 | y :: l => by
  unfold cnt
  have h1 := ZtD x l
  have h2 := ZoA x l
  rw [List.mem_cons]
  by_cases h : x = y
  ·rw [if_pos h]; exact ⟨fun _ => .inl h, fun _ => by omega⟩
  ·rw [if_neg h]
   rw [show (0 : Int) + cnt x l = cnt x l by omega]
   rw [h1]
   exact ⟨.inr, fun hh => hh.resolve_left h⟩
theorem ZrW : ∀ (l : List ByteArray) (m : CM), (∀ x, 0 ≤ bg m x ∧ bg m x + l.length ≤ 100000000000) → ∀ x, bg (upM m l) x = bg m x + cnt x l
 | [], m, _, x => by rw [upM, cnt]; omega
 | y :: l, m, h, x => by
  unfold upM
  have hy := h y
  rw [List.length_cons] at hy
  have hw : IntKind.i64.wrap (bg m y + 1) = bg m y + 1 := w64 (by omega) (by omega)
  rw [hw, ZrW l _ (fun z => ?_) x, Zq6]
  ·rw [ZrN]
   by_cases e : x = y
   ·rw [if_pos e, if_pos e, e]; omega
   ·rw [if_neg e, if_neg e]; omega
  ·have hz := h z
   rw [List.length_cons] at hz
   rw [Zq6]
   by_cases e : z = y
   ·rw [if_pos e]; omega
   ·rw [if_neg e]; omega
theorem Zw4 : ∀ (l : List ByteArray) (m : CM), (∀ x, -100000000000 ≤ bg m x - l.length ∧ bg m x ≤ 100000000000) → ∀ x, bg (dnM m l) x = bg m x - cnt x l
 | [], m, _, x => by rw [dnM, cnt]; omega
 | y :: l, m, h, x => by
  unfold dnM
  have hy := h y
  rw [List.length_cons] at hy
  have hw : IntKind.i64.wrap (bg m y - 1) = bg m y - 1 := w64 (by omega) (by omega)
  rw [hw, Zw4 l _ (fun z => ?_) x, Zq6]
  ·rw [ZrN]
   by_cases e : x = y
   ·rw [if_pos e, if_pos e, e]; omega
   ·rw [if_neg e, if_neg e]; omega
  ·have hz := h z
   rw [List.length_cons] at hz
   rw [Zq6]
   by_cases e : z = y
   ·rw [if_pos e]; omega
   ·rw [if_neg e]; omega
def pr (m : CM) (x : ByteArray) : Bool := decide (bg m x ≠ 0)
def mb (l : List ByteArray) (x : ByteArray) : Bool := decide (x ∈ l)
theorem Zze {l : List ByteArray} {m : CM} (h : ∀ x, 0 ≤ bg m x ∧ bg m x + l.length ≤ 100000000000) : pr (upM m l) = fun x => pr m x || mb l x := by
 funext x
 unfold pr mb
 rw [ZrW l m h x, Bool.eq_iff_iff]
 have h1 := ZoA x l
 have h2 := ZtD x l
 have h3 := (h x).1
 simp only [decide_eq_true_eq, Bool.or_eq_true]
 rw [← h2]
 omega
theorem ZiN {m m' : CM} (h : ∀ x, bg m' x = bg m x) : pr m' = pr m := by funext x; unfold pr; rw [h x]
theorem Zxn : pr [] = fun _ => false := by funext x; rfl
theorem Zq0 : mb [] = fun _ => false := by funext x; rfl
def ad (P : ByteArray → Bool) : List ByteArray → List ByteArray → List ByteArray
 | out, [] => out
 | out, x :: l => if (decide (x ∈ out) || P x) = true then ad P out l else ad P (out ++ [x]) l
theorem Zl6 (P : ByteArray → Bool) : ∀ (l out : List ByteArray), (ad P out l).length ≤ out.length + l.length
 | [], out => by simp [ad]
 | x :: l, out => by
  unfold ad
  split
  ·have := Zl6 P l out; rw [List.length_cons]; omega
  ·have := Zl6 P l (out ++ [x]); rw [List.length_cons]; simp at this; omega
theorem Zst (P : ByteArray → Bool) (x : ByteArray) : ∀ (l out : List ByteArray), x ∈ ad P out l ↔ x ∈ out ∨ (x ∈ l ∧ P x = false)
 | [], out => by simp [ad]
 | y :: l, out => by
  unfold ad
  split
  ·rename_i h
   rw [Zst P x l out, List.mem_cons]
   rw [Bool.or_eq_true, decide_eq_true_eq] at h
   constructor
   ·rintro (h1 | h1)
    ·exact .inl h1
    ·exact .inr ⟨.inr h1.1, h1.2⟩
   ·rintro (h1 | ⟨rfl | h1, h2⟩)
    ·exact .inl h1
    ·rcases h with h | h
     ·exact .inl h
     ·rw [h] at h2; cases h2
    ·exact .inr ⟨h1, h2⟩
  ·rename_i h
   rw [Zst P x l (out ++ [y]), List.mem_cons, List.mem_append, List.mem_singleton]
   rw [Bool.or_eq_true, decide_eq_true_eq, not_or] at h
   constructor
   ·rintro ((h1 | rfl) | h1)
    ·exact .inl h1
    ·exact .inr ⟨.inl rfl, by simpa using h.2⟩
    ·exact .inr ⟨.inr h1.1, h1.2⟩
   ·rintro (h1 | ⟨rfl | h1, h2⟩)
    ·exact .inl (.inl h1)
    ·exact .inl (.inr rfl)
    ·exact .inr ⟨h1, h2⟩
theorem Zjo (P : ByteArray → Bool) : ∀ (l out : List ByteArray), out.Nodup → (ad P out l).Nodup
 | [], out, h => h
 | x :: l, out, h => by
  rw [ad]
  split
  ·exact Zjo P l out h
  ·rename_i hx
   rw [Bool.or_eq_true, decide_eq_true_eq, not_or] at hx
   refine Zjo P l _ (List.nodup_append.2 ⟨h, by simp, fun a ha b hb => ?_⟩)
   rw [List.mem_singleton] at hb
   subst hb
   exact fun e => hx.1 (e ▸ ha)
theorem Zoi : ∀ (l out : List ByteArray), (out ++ l).Nodup → ad (fun _ => false) out l = out ++ l
 | [], out, h => (List.append_nil _).symm
 | x :: l, out, h => by
  rw [ad, if_neg, Zoi l (out ++ [x]) (by simpa using h)]
  ·simp
  ·rw [Bool.or_false, decide_eq_true_eq]
   intro hx
   have := (List.nodup_append.1 h).2.2 x hx x (by simp)
   exact this rfl
theorem ZsD (P : ByteArray → Bool) : ∀ (a b out : List ByteArray), ad P out (a ++ b) = ad P (ad P out a) b
 | [], b, out => rfl
 | x :: a, b, out => by
  rw [List.cons_append, ad, ad]
  split
  ·rw [ZsD P a b out]
  ·rw [ZsD P a b]
theorem ZoG (B P : ByteArray → Bool) : ∀ (l acc out : List ByteArray), ad B out (ad P acc l) = ad (fun x => B x || P x) (ad B out acc) l
 | [], acc, out => rfl
 | x :: l, acc, out => by
  rw [ad, ad]
  by_cases h1 : (decide (x ∈ acc) || P x) = true
  ·rw [if_pos h1, ZoG B P l acc out]
   rw [Bool.or_eq_true, decide_eq_true_eq] at h1
   rw [if_pos]
   rw [Bool.or_eq_true, decide_eq_true_eq, Bool.or_eq_true, Zst]
   rcases h1 with h1 | h1
   ·cases hb : B x with
    | true => exact .inr (.inl rfl)
    | false => exact .inl (.inr ⟨h1, rfl⟩)
   ·exact .inr (.inr h1)
  ·rw [if_neg h1, ZoG B P l (acc ++ [x]) out, ZsD]
   rw [Bool.or_eq_true, decide_eq_true_eq, not_or] at h1
   have hp : P x = false := by simpa using h1.2
   rw [hp, Bool.or_false]
   show ad _ (ad B (ad B out acc) [x]) l = _
   rw [ad]
   by_cases h2 : (decide (x ∈ ad B out acc) || B x) = true
   ·rw [if_pos h2, if_pos h2]; rfl
   ·rw [if_neg h2, if_neg h2]; rfl
theorem ZyB (B P : ByteArray → Bool) (l out : List ByteArray) : ad B out (ad P [] l) = ad (fun x => B x || P x) out l := by rw [ZoG]; rfl
theorem ZuD (l : List ByteArray) (s : ByteArray) : Zdo l s = some (mb l s) := by
 have key : ∀ (r : List ByteArray) (i : Nat), Zbs l s i r = some (mb r s) := by
  intro r
  induction r with
  | nil => intro i; rw [Zbs]; rfl
  | cons x r ih =>
   intro i
   rw [Zbs]
   show (if (x.toList == s.toList) = true then some true else Zbs l s (i + 1) r) = _
   rw [ZjF, ih]
   by_cases h : x = s
   ·rw [decide_eq_true h, ifT]; unfold mb; rw [decide_eq_true (by simp [h])]
   ·rw [decide_eq_false h, ifF]; unfold mb; congr 1; apply decide_eq_decide.2; rw [List.mem_cons]; exact ⟨.inr, fun hh => hh.resolve_left fun e => h e.symm⟩
 exact key l 0
theorem Zip (l more ZcH : List ByteArray) (h : l.length + more.length ≤ 1000000000000) : Zbi l more ZcH = some (ad (mb ZcH) l more) := by
 have key : ∀ (r out : List ByteArray) (i : Nat), out.length + r.length ≤ 1000000000000 → Zbr more ZcH out i r = some (ad (mb ZcH) out r) := by
  intro r
  induction r with
  | nil => intro out i _; rw [Zbr]; rfl
  | cons x r ih =>
   intro out i hn
   rw [List.length_cons] at hn
   rw [Zbr, ad]
   show (Zdo out x >>= _) = _
   rw [ZuD, ZC]
   show ((if (!decide (x ∈ out)) = true then _ else some false) >>= _) = _
   cases hd : decide (x ∈ out) with
   | true =>
    rw [Bool.not_true, ifF, ZC, ifF, Bool.true_or, ifT, ih _ _ (by omega)]
   | false =>
    rw [Bool.not_false, ifT, ZuD, ZC, ZC, Bool.false_or]
    cases mb ZcH x with
    | true => rw [Bool.not_true, ifF, ifT, ih _ _ (by omega)]
    | false => rw [Bool.not_false, ifT, ifF, Zd6 _ (by simp; omega), ih _ _ (by simp; omega)]
 unfold Zbi
 rw [Zd6 _ (by simp; omega)]
 exact key more _ 0 (by simpa using h)
theorem Zhs (l : List Zc) (h : l.length ≤ 1000000000000) : ZaX l = some (l.map (·.fName)) ∧ ZeL l = some (l.map (·.fName)) := by
 have key : ∀ (r : List Zc) (out : List ByteArray) (i : Nat), out.length + r.length ≤ 1000000000000 → ZaU l out i r = some (out ++ r.map (·.fName)) ∧ Zdb out l i r = some (out ++ r.map (·.fName)) := by
  intro r
  induction r with
  | nil => intro out i _; rw [ZaU, Zdb]; simp
  | cons x r ih =>
   intro out i hn
   rw [List.length_cons] at hn
   rw [ZaU, Zdb]
   have := ih (out ++ [x.fName]) (i + 1) (by simp; omega)
   rw [Zd6 _ (by simp; omega), Zd6 _ (by simp; omega), this.1, this.2]
   simp
 have := key l [] 0 (by simpa using h)
 rw [ZaX, ZeL, this.1, this.2]
 exact ⟨rfl, rfl⟩

theorem ZjZ (l : List ByteArray) (f : Zd) (b : Zc) : Zaa l f b = (Za5 (Zd.mk (upM f.fbound l) f.fseen f.fout) b >>= fun r => some (Zd.mk (dnM r.fbound l) r.fseen r.fout)) := by
 have h2 : ∀ (s : List ByteArray) (i : Nat) (r : Zd) (m : CM), ZO l i r m b s = some (Zd.mk (dnM m s) r.fseen r.fout) := by
  intro s
  induction s with
  | nil => intro i r m; rw [ZO]; rfl
  | cons x s ih =>
   intro i r m
   rw [ZO]
   obtain ⟨c, hc⟩ := Zeg m x
   show (Zcf m 0 x >>= _) = _
   rw [hc, ZC]
   exact ih _ _ _
 have h1 : ∀ (s : List ByteArray) (i : Nat) (m : CM), ZX l i f m b s = (Za5 (Zd.mk (upM m s) f.fseen f.fout) b >>= fun r => some (Zd.mk (dnM r.fbound l) r.fseen r.fout)) := by
  intro s
  induction s with
  | nil =>
   intro i m
   rw [ZX]
   show (Za5 (Zd.mk m f.fseen f.fout) b >>= _) = (Za5 (Zd.mk m f.fseen f.fout) b >>= _)
   congr 1
   funext r
   exact h2 _ _ _ _
  | cons x s ih =>
   intro i m
   rw [ZX]
   obtain ⟨c, hc⟩ := Zeg m x
   show (Zcf m 0 x >>= _) = _
   rw [hc, ZC]
   exact ih _ _
 rw [Zaa]
 exact h1 l 0 _
theorem Zj2 (l : List ByteArray) (f : Zd) (b : Zi) : Zac l f b = (Za7 (Zd.mk (upM f.fbound l) f.fseen f.fout) b >>= fun r => some (Zd.mk (dnM r.fbound l) r.fseen r.fout)) := by
 have h2 : ∀ (s : List ByteArray) (i : Nat) (r : Zd) (m : CM), ZN l i r m b s = some (Zd.mk (dnM m s) r.fseen r.fout) := by
  intro s
  induction s with
  | nil => intro i r m; rw [ZN]; rfl
  | cons x s ih =>
   intro i r m
   rw [ZN]
   obtain ⟨c, hc⟩ := Zeg m x
   show (Zcf m 0 x >>= _) = _
   rw [hc, ZC]
   exact ih _ _ _
 have h1 : ∀ (s : List ByteArray) (i : Nat) (m : CM), ZW l i f m b s = (Za7 (Zd.mk (upM m s) f.fseen f.fout) b >>= fun r => some (Zd.mk (dnM r.fbound l) r.fseen r.fout)) := by
  intro s
  induction s with
  | nil =>
   intro i m
   rw [ZW]
   show (Za7 (Zd.mk m f.fseen f.fout) b >>= _) = (Za7 (Zd.mk m f.fseen f.fout) b >>= _)
   congr 1
   funext r
   exact h2 _ _ _ _
  | cons x s ih =>
   intro i m
   rw [ZW]
   obtain ⟨c, hc⟩ := Zeg m x
   show (Zcf m 0 x >>= _) = _
   rw [hc, ZC]
   exact ih _ _
 rw [Zac]
 exact h1 l 0 _
theorem Zlh (l : List ByteArray) (f : Zd) (b : Zo) : Zaq l b f = (ZaP b (Zd.mk (upM f.fbound l) f.fseen f.fout) >>= fun r => some (Zd.mk (dnM r.fbound l) r.fseen r.fout)) := by
 have h2 : ∀ (s : List ByteArray) (i : Nat) (r : Zd) (m : CM), ZR l i b r m s = some (Zd.mk (dnM m s) r.fseen r.fout) := by
  intro s
  induction s with
  | nil => intro i r m; rw [ZR]; rfl
  | cons x s ih =>
   intro i r m
   rw [ZR]
   obtain ⟨c, hc⟩ := Zeg m x
   show (Zcf m 0 x >>= _) = _
   rw [hc, ZC]
   exact ih _ _ _
 have h1 : ∀ (s : List ByteArray) (i : Nat) (m : CM), Z4 l i b f m s = (ZaP b (Zd.mk (upM m s) f.fseen f.fout) >>= fun r => some (Zd.mk (dnM r.fbound l) r.fseen r.fout)) := by
  intro s
  induction s with
  | nil =>
   intro i m
   rw [Z4]
   show (ZaP b (Zd.mk m f.fseen f.fout) >>= _) = (ZaP b (Zd.mk m f.fseen f.fout) >>= _)
   congr 1
   funext r
   exact h2 _ _ _ _
  | cons x s ih =>
   intro i m
   rw [Z4]
   obtain ⟨c, hc⟩ := Zeg m x
   show (Zcf m 0 x >>= _) = _
   rw [hc, ZC]
   exact ih _ _
 rw [Zaq]
 exact h1 l 0 _
theorem Zlr (l : List ByteArray) (f : Zd) (b : Zo) : ZaG l b f = (Zbu b (Zd.mk (upM f.fbound l) f.fseen f.fout) >>= fun r => some (Zd.mk (dnM r.fbound l) r.fseen r.fout)) := by
 have h2 : ∀ (s : List ByteArray) (i : Nat) (r : Zd) (m : CM), ZU l i b r m s = some (Zd.mk (dnM m s) r.fseen r.fout) := by
  intro s
  induction s with
  | nil => intro i r m; rw [ZU]; rfl
  | cons x s ih =>
   intro i r m
   rw [ZU]
   obtain ⟨c, hc⟩ := Zeg m x
   show (Zcf m 0 x >>= _) = _
   rw [hc, ZC]
   exact ih _ _ _
 have h1 : ∀ (s : List ByteArray) (i : Nat) (m : CM), Z2 l i b f m s = (Zbu b (Zd.mk (upM m s) f.fseen f.fout) >>= fun r => some (Zd.mk (dnM r.fbound l) r.fseen r.fout)) := by
  intro s
  induction s with
  | nil =>
   intro i m
   rw [Z2]
   show (Zbu b (Zd.mk m f.fseen f.fout) >>= _) = (Zbu b (Zd.mk m f.fseen f.fout) >>= _)
   congr 1
   funext r
   exact h2 _ _ _ _
  | cons x s ih =>
   intro i m
   rw [Z2]
   obtain ⟨c, hc⟩ := Zeg m x
   show (Zcf m 0 x >>= _) = _
   rw [hc, ZC]
   exact ih _ _
 rw [ZaG]
 exact h1 l 0 _
theorem ZkQ (l : List ByteArray) (f : Zd) (b : Zo) : ZaF l b f = (Zbv b (Zd.mk (upM f.fbound l) f.fseen f.fout) >>= fun r => some (Zd.mk (dnM r.fbound l) r.fseen r.fout)) := by
 have h2 : ∀ (s : List ByteArray) (i : Nat) (r : Zd) (m : CM), ZS l i b r m s = some (Zd.mk (dnM m s) r.fseen r.fout) := by
  intro s
  induction s with
  | nil => intro i r m; rw [ZS]; rfl
  | cons x s ih =>
   intro i r m
   rw [ZS]
   obtain ⟨c, hc⟩ := Zeg m x
   show (Zcf m 0 x >>= _) = _
   rw [hc, ZC]
   exact ih _ _ _
 have h1 : ∀ (s : List ByteArray) (i : Nat) (m : CM), Z3 l i b f m s = (Zbv b (Zd.mk (upM m s) f.fseen f.fout) >>= fun r => some (Zd.mk (dnM r.fbound l) r.fseen r.fout)) := by
  intro s
  induction s with
  | nil =>
   intro i m
   rw [Z3]
   show (Zbv b (Zd.mk m f.fseen f.fout) >>= _) = (Zbv b (Zd.mk m f.fseen f.fout) >>= _)
   congr 1
   funext r
   exact h2 _ _ _ _
  | cons x s ih =>
   intro i m
   rw [Z3]
   obtain ⟨c, hc⟩ := Zeg m x
   show (Zcf m 0 x >>= _) = _
   rw [hc, ZC]
   exact ih _ _
 rw [ZaF]
 exact h1 l 0 _
structure FS (f : Zd) (N : Nat) : Prop where
 so : ∀ x, sg f.fseen x = decide (x ∈ f.fout)
 nn : ∀ x, 0 ≤ bg f.fbound x
 up : ∀ x, bg f.fbound x + N ≤ 10000000000
 ln : f.fout.length + N ≤ 10000000000
theorem FS.le {f : Zd} {N M : Nat} (h : FS f N) (hm : M ≤ N) : FS f M := ⟨h.so, h.nn, fun x => by have := h.up x; omega, by have := h.ln; omega⟩
structure FD (f f' : Zd) (P : ByteArray → Bool) (L : List ByteArray) (N : Nat) : Prop where
 fs : FS f' N
 bs : ∀ x, bg f'.fbound x = bg f.fbound x
 out : f'.fout = ad P f.fout L
theorem Zuy (f : Zd) (s : ByteArray) (N : Nat) (h : FS f (N + 1)) : ∃ f', ZcU f s = some f' ∧ FD f f' (pr f.fbound) [s] N := by
 obtain ⟨b1, h1⟩ := Zeg f.fbound s
 obtain ⟨b2, h2⟩ := ZrX f.fseen s
 have hl := h.ln
 unfold ZcU
 rw [h1, ZC, h2]
 show ∃ f', ((if (bg f.fbound s == 0) = true then some (!sg f.fseen s) else some false) >>= _) = _ ∧ _
 by_cases hb : bg f.fbound s = 0
 ·have hp : pr f.fbound s = false := decide_eq_false (by simp [hb])
  rw [hb, show ((0 : Int) == 0) = true from rfl, ifT, ZC, h.so s]
  by_cases hs : s ∈ f.fout
  ·rw [decide_eq_true hs, Bool.not_true, ifF]
   refine ⟨f, rfl, h.le (by omega), fun x => rfl, ?_⟩
   rw [ad, decide_eq_true hs, Bool.true_or, ifT]; rfl
  ·rw [decide_eq_false hs, Bool.not_false, ifT, Zd6 _ (by simp; omega)]
   refine ⟨_, rfl, ⟨fun x => ?_, h.nn, fun x => by have := h.up x; show bg f.fbound x + _ ≤ _; omega, by simp; omega⟩, fun x => rfl, ?_⟩
   ·show sg (ZcQ f.fseen s true) x = decide (x ∈ f.fout ++ [s])
    rw [Zu6]
    by_cases e : x = s
    ·rw [if_pos e, decide_eq_true (by simp [e])]
    ·rw [if_neg e, h.so x]; apply decide_eq_decide.2; simp [e]
   ·show f.fout ++ [s] = _
    rw [ad, decide_eq_false hs, hp, Bool.false_or, ifF]; rfl
 ·have hp : pr f.fbound s = true := decide_eq_true (by simpa using hb)
  rw [show (bg f.fbound s == 0) = false from by simpa using hb, ifF, ZC, ifF]
  refine ⟨f, rfl, h.le (by omega), fun x => rfl, ?_⟩
  rw [ad, hp, Bool.or_true, ifT]; rfl
theorem ZvK (l : List Zq) : ∀ (s : List Zq) (f : Zd) (ρ : List ByteArray) (i j N : Nat) (e : Zo) (out0 : List ByteArray), FS f (s.length + N) → f.fout = ad (pr f.fbound) out0 ρ → ρ.length + s.length ≤ 10000000000 →
  ∃ f' ρ', ZaZ l i f.fout f.fbound f.fseen s = some f' ∧ ZY ρ j e s = ZY ρ' (j + s.length) e [] ∧ FS f' N ∧ (∀ x, bg f'.fbound x = bg f.fbound x) ∧ f'.fout = ad (pr f.fbound) out0 ρ' ∧ ρ'.length ≤ ρ.length + s.length ∧ (ρ.Nodup → ρ'.Nodup) := by
 intro s
 induction s with
 | nil =>
  intro f ρ i j N e out0 h hf hr
  exact ⟨f, ρ, by rw [ZaZ], rfl, by simpa using h, fun x => rfl, hf, by simp, id⟩
 | cons a s ih =>
  intro f ρ i j N e out0 h hf hr
  rw [List.length_cons] at h hr
  rw [ZaZ, ZY]
  show ∃ f' ρ', (if (a.fOp == 1) = true then ZcU (Zd.mk f.fbound f.fseen f.fout) a.fName >>= _ else _) = _ ∧ (if (a.fOp == 1) = true then Zbi ρ [a.fName] [] >>= _ else _) = _ ∧ _
  cases hop : (a.fOp == 1) with
  | true =>
   obtain ⟨f1, h1, h2⟩ := Zuy f a.fName (s.length + N) (h.le (by omega))
   rw [ifT, ifT, h1, ZC, Zip _ _ _ (by simp; omega), ZC, Zq0]
   have hp : pr f1.fbound = pr f.fbound := ZiN h2.bs
   have hl := Zl6 (fun _ => false) [a.fName] ρ
   simp only [List.length_cons, List.length_nil] at hl
   obtain ⟨f2, ρ2, k1, k2, k3, k4, k5, k6, k7⟩ := ih f1 (ad (fun _ => false) ρ [a.fName]) (i + 1) (j + 1) N e out0 h2.fs (by
    rw [h2.out, hf, ZoG, hp]; congr 1; funext x; simp) (by omega)
   refine ⟨f2, ρ2, k1, ?_, k3, fun x => (k4 x).trans (h2.bs x), by rw [k5, hp], by rw [List.length_cons]; omega, fun h => k7 (Zjo _ _ _ h)⟩
   rw [k2, List.length_cons, show j + 1 + s.length = j + (s.length + 1) from by omega]
  | false =>
   rw [ifF, ifF]
   obtain ⟨f2, ρ2, k1, k2, k3, k4, k5, k6, k7⟩ := ih f ρ (i + 1) (j + 1) N e out0 (h.le (by omega)) hf (by omega)
   refine ⟨f2, ρ2, k1, ?_, k3, k4, k5, by rw [List.length_cons]; omega, k7⟩
   rw [k2, List.length_cons, show j + 1 + s.length = j + (s.length + 1) from by omega]
theorem Zjy {f : Zd} {l : List ByteArray} {N : Nat} (h : FS f (l.length + N)) : FS (Zd.mk (upM f.fbound l) f.fseen f.fout) N ∧ pr (upM f.fbound l) = (fun x => pr f.fbound x || mb l x) := by
 have hb : ∀ x, 0 ≤ bg f.fbound x ∧ bg f.fbound x + l.length ≤ 100000000000 := fun x => ⟨h.nn x, by have := h.up x; omega⟩
 refine ⟨⟨h.so, fun x => ?_, fun x => ?_, by have := h.ln; show f.fout.length + _ ≤ _; omega⟩, Zze hb⟩
 ·show 0 ≤ bg (upM f.fbound l) x
  rw [ZrW l _ hb]; have := h.nn x; have := ZoA x l; omega
 ·show bg (upM f.fbound l) x + _ ≤ _
  rw [ZrW l _ hb]; have := h.up x; have := Zsu x l; omega
theorem ZjH {f r : Zd} {l : List ByteArray} {N M : Nat} (h : FS f (l.length + N)) (hM : M ≤ N) (hr : FS r M) (hb : ∀ x, bg r.fbound x = bg (upM f.fbound l) x) : FS (Zd.mk (dnM r.fbound l) r.fseen r.fout) M ∧ ∀ x, bg (dnM r.fbound l) x = bg f.fbound x := by
 have h1 : ∀ x, 0 ≤ bg f.fbound x ∧ bg f.fbound x + l.length ≤ 100000000000 := fun x => ⟨h.nn x, by have := h.up x; omega⟩
 have h2 : ∀ x, bg r.fbound x = bg f.fbound x + cnt x l := fun x => by rw [hb x, ZrW l _ h1]
 have h3 : ∀ x, bg (dnM r.fbound l) x = bg f.fbound x := fun x => by
  rw [Zw4 l _ (fun z => ?_), h2 x]
  ·omega
  ·rw [h2 z]; have := h1 z; have := ZoA z l; have := Zsu z l; have := h.up z; omega
 refine ⟨⟨hr.so, fun x => ?_, fun x => ?_, hr.ln⟩, h3⟩
 ·show 0 ≤ bg (dnM r.fbound l) x; rw [h3]; exact h.nn x
 ·show bg (dnM r.fbound l) x + _ ≤ _; rw [h3]; have := h.up x; omega

def EX (e : Zo) : Prop := ∀ (f : Zd) (N : Nat), FS f (2 * e.vol + N) → ∃ L f', ZL e = some L ∧ L.length ≤ e.vol ∧ L.Nodup ∧ ZaH f e = some f' ∧ FD f f' (pr f.fbound) L N
def Znt : List Zc → Nat
 | [] => 0
 | b :: s => 2 * b.fBody.vol + b.fParams.length + Znt s
def Zko : List Zi → Nat
 | [] => 0
 | b :: s => 2 * b.fBody.vol + b.fVars.length + Zko s
theorem ZrU : ∀ s, Znt s + 8 * s.length ≤ 2 * bB s
 | [] => by simp [Znt]
 | b :: s => by
  have := ZrU s; have := ZiL b; have := Zpt b.fParams
  rw [Znt, Zlt, List.length_cons]; omega
theorem Zrm : ∀ s, Zko s + 8 * s.length ≤ 2 * lB s
 | [] => by simp [Zko]
 | b :: s => by
  have := Zrm s; have := Zkc b; have := Zpt b.fVars
  rw [Zko, Zlw, List.length_cons]; omega
theorem ZwP (b : Zc) (h : EX b.fBody) (hv : b.fBody.vol ≤ 1000000000) (f : Zd) (N : Nat) (hf : FS f (2 * b.fBody.vol + b.fParams.length + N)) :
  ∃ L f', Za0 b = some (ad (mb b.fParams) [] L) ∧ L.length ≤ b.fBody.vol ∧ Zaa b.fParams f b = some f' ∧ FD f f' (fun x => pr f.fbound x || mb b.fParams x) L N := by
 have h0 : FS f (b.fParams.length + (2 * b.fBody.vol + N)) := hf.le (by omega)
 obtain ⟨h1, h2⟩ := Zjy h0
 obtain ⟨L, r, k1, k2, _, k3, k4⟩ := h _ N h1
 obtain ⟨m1, m2⟩ := ZjH (r := r) h0 (by omega) k4.fs k4.bs
 refine ⟨L, _, ?_, k2, ?_, ⟨m1, m2, ?_⟩⟩
 ·rw [Za0, k1, ZC, Zip _ _ _ (by simp; omega)]; rfl
 ·rw [ZjZ, Za5, k3]; rfl
 ·show r.fout = _
  rw [k4.out, h2]
theorem ZxK (b : Zi) (h : EX b.fBody) (f : Zd) (N : Nat) (hf : FS f (2 * b.fBody.vol + b.fVars.length + N)) :
  ∃ L f', ZL b.fBody = some L ∧ L.length ≤ b.fBody.vol ∧ Zac b.fVars f b = some f' ∧ FD f f' (fun x => pr f.fbound x || mb b.fVars x) L N := by
 have h0 : FS f (b.fVars.length + (2 * b.fBody.vol + N)) := hf.le (by omega)
 obtain ⟨h1, h2⟩ := Zjy h0
 obtain ⟨L, r, k1, k2, _, k3, k4⟩ := h _ N h1
 obtain ⟨m1, m2⟩ := ZjH (r := r) h0 (by omega) k4.fs k4.bs
 refine ⟨L, _, k1, k2, ?_, ⟨m1, m2, ?_⟩⟩
 ·rw [Zj2, Za7, k3]; rfl
 ·show r.fout = _
  rw [k4.out, h2]
theorem Zr1 (e : Zo) (names A : List ByteArray) (B : ByteArray → Bool) (out0 : List ByteArray) : ∀ (s : List Zc), (∀ b ∈ s, EX b.fBody ∧ b.fBody.vol ≤ 1000000000) → ∀ (f : Zd) (ρ : List ByteArray) (i j N : Nat), FS f (Znt s + N) → f.fout = ad B out0 ρ → pr f.fbound = (fun x => B x || mb A x) → ρ.length + bB s ≤ 10000000000 →
  ∃ f' ρ', Zba e i f.fout f.fbound f.fseen s = some f' ∧ Zap ρ names A j e s = Zab ρ' names 0 e e.fKids ∧ FS f' N ∧ (∀ x, bg f'.fbound x = bg f.fbound x) ∧ f'.fout = ad B out0 ρ' ∧ ρ'.length ≤ ρ.length + bB s ∧ (ρ.Nodup → ρ'.Nodup) := by
 intro s
 induction s with
 | nil =>
  intro hs f ρ i j N h hf hp hr
  exact ⟨f, ρ, by rw [Zba], by rw [Zap], h.le (by omega), fun x => rfl, hf, by omega, id⟩
 | cons b s ih =>
  intro hs f ρ i j N h hf hp hr
  rw [Znt] at h
  rw [Zlt] at hr
  have hbv := ZiL b
  have hb := hs b (by simp)
  obtain ⟨L, f1, h1, h2, h3, h4⟩ := ZwP b hb.1 hb.2 f (Znt s + N) (h.le (by omega))
  have hl1 := Zl6 (mb b.fParams) L []
  have hl2 := Zl6 (mb A) (ad (mb b.fParams) [] L) ρ
  simp only [List.length_nil] at hl1
  obtain ⟨f2, ρ2, k1, k2, k3, k4, k5, k6, k7⟩ := ih (fun c hc => hs c (by simp [hc])) f1 (ad (mb A) ρ (ad (mb b.fParams) [] L)) (i + 1) (j + 1) N h4.fs
   (by rw [h4.out, ZoG, ← hf, ZyB, hp])
   ((ZiN h4.bs).trans hp) (by omega)
  refine ⟨f2, ρ2, ?_, ?_, k3, fun x => (k4 x).trans (h4.bs x), k5, by rw [Zlt]; omega, fun h => k7 (Zjo _ _ _ h)⟩
  ·rw [Zba]
   show (Zaa b.fParams f b >>= _) = _
   rw [h3, ZC, k1]
  ·rw [Zap]
   show (Za0 b >>= _) = _
   rw [h1, ZC, Zip _ _ _ (by omega), ZC, k2]
theorem Zwq (e : Zo) (names : List ByteArray) (B : ByteArray → Bool) (out0 : List ByteArray) : ∀ (s : List Zo), (∀ b ∈ s, EX b) → ∀ (f : Zd) (ρ : List ByteArray) (i j N : Nat), FS f (2 * kB s + N) → f.fout = ad B out0 ρ → pr f.fbound = (fun x => B x || mb names x) → ρ.length + kB s ≤ 10000000000 →
  ∃ f' ρ', ZaT e i f.fout f.fbound f.fseen s = some f' ∧ Zab ρ names j e s = Zai ρ' 0 e ∧ FS f' N ∧ (∀ x, bg f'.fbound x = bg f.fbound x) ∧ f'.fout = ad B out0 ρ' ∧ ρ'.length ≤ ρ.length + kB s ∧ (ρ.Nodup → ρ'.Nodup) := by
 intro s
 induction s with
 | nil =>
  intro hs f ρ i j N h hf hp hr
  exact ⟨f, ρ, by rw [ZaT], by rw [Zab], h.le (by omega), fun x => rfl, hf, by omega, id⟩
 | cons b s ih =>
  intro hs f ρ i j N h hf hp hr
  rw [ZmZ] at h hr
  obtain ⟨L, f1, h1, h2, _, h3, h4⟩ := hs b (by simp) f (2 * kB s + N) (h.le (by omega))
  have hl2 := Zl6 (mb names) L ρ
  obtain ⟨f2, ρ2, k1, k2, k3, k4, k5, k6, k7⟩ := ih (fun c hc => hs c (by simp [hc])) f1 (ad (mb names) ρ L) (i + 1) (j + 1) N h4.fs
   (by rw [h4.out, ZoG, ← hf, hp])
   ((ZiN h4.bs).trans hp) (by omega)
  refine ⟨f2, ρ2, ?_, ?_, k3, fun x => (k4 x).trans (h4.bs x), k5, by rw [ZmZ]; omega, fun h => k7 (Zjo _ _ _ h)⟩
  ·rw [ZaT]
   show (ZaH f b >>= _) = _
   rw [h3, ZC, k1]
  ·rw [Zab]
   show (ZL b >>= _) = _
   rw [h1, ZC, Zip _ _ _ (by omega), ZC, k2]
theorem Zwp (e : Zo) (hv : e.vol ≤ 1000000000) (here : List ByteArray) (hh : here = if (e.fOp == 6) = true then [e.fName] else []) (B : ByteArray → Bool) (out0 : List ByteArray) : ∀ (s pre : List Zi), e.fAlts = pre ++ s → (∀ b ∈ s, EX b.fBody ∧ b.vol ≤ 1000000000) → ∀ (f : Zd) (ρ : List ByteArray) (i N : Nat), FS f (Zko s + N) → f.fout = ad B out0 ρ → pr f.fbound = (fun x => B x || mb here x) → ρ.length + lB s ≤ 10000000000 →
  ∃ f' ρ', Zbc e i f.fout f.fbound f.fseen s = some f' ∧ Zai ρ pre.length e = some ρ' ∧ FS f' N ∧ (∀ x, bg f'.fbound x = bg f.fbound x) ∧ f'.fout = ad B out0 ρ' ∧ ρ'.length ≤ ρ.length + lB s ∧ (ρ.Nodup → ρ'.Nodup) := by
 intro s
 induction s with
 | nil =>
  intro pre hpre hs f ρ i N h hf hp hr
  refine ⟨f, ρ, by rw [Zbc], ?_, h.le (by omega), fun x => rfl, hf, by omega, id⟩
  rw [Zai, hpre, List.append_nil, decide_eq_false (by omega), ifF]
 | cons b s ih =>
  intro pre hpre hs f ρ i N h hf hp hr
  rw [Zko] at h
  rw [Zlw] at hr
  have hbv := Zkc b
  have hb := hs b (by simp)
  have hsb := Zpt b.fVars
  obtain ⟨L, f1, h1, h2, h3, h4⟩ := ZxK b hb.1 f (Zko s + N) (h.le (by omega))
  have hl2 := Zl6 (mb (b.fVars ++ here)) L ρ
  have hmb : (fun x => pr f.fbound x || mb b.fVars x) = fun x => B x || mb (b.fVars ++ here) x := by
   rw [hp]; funext x
   show ((B x || mb here x) || mb b.fVars x) = _
   have : mb (b.fVars ++ here) x = (mb b.fVars x || mb here x) := by unfold mb; rw [Bool.eq_iff_iff]; simp
   rw [this]
   cases B x <;> cases mb here x <;> cases mb b.fVars x <;> rfl
  obtain ⟨f2, ρ2, k1, k2, k3, k4, k5, k6, k7⟩ := ih (pre ++ [b]) (by rw [hpre]; simp) (fun c hc => hs c (by simp [hc])) f1 (ad (mb (b.fVars ++ here)) ρ L) (i + 1) N h4.fs
   (by rw [h4.out, ZoG, ← hf, hmb])
   ((ZiN h4.bs).trans hp) (by omega)
  refine ⟨f2, ρ2, ?_, ?_, k3, fun x => (k4 x).trans (h4.bs x), k5, by rw [Zlw]; omega, fun h => k7 (Zjo _ _ _ h)⟩
  ·rw [Zbc]
   show (Zac b.fVars f b >>= _) = _
   rw [h3, ZC, k1]
  ·have hg : e.fAlts[pre.length]? = some b := by rw [hpre]; simp
   have hk7 : Zbw ρ pre.length (b.fVars ++ here) e = some ρ2 := by
    rw [Zbw, hg, ZC, h1, ZC, Zip _ _ _ (by omega), ZC]
    rw [List.length_append] at k2
    exact k2
   rw [Zai, decide_eq_true (by rw [hpre, List.length_append, List.length_cons]; omega), ifT, hg, ZC, Zd6 _ (by simp; omega)]
   cases hop : (e.fOp == 6) with
   | true =>
    rw [hop, ifT] at hh
    rw [ifT, Zd6 _ (by simp; omega), List.nil_append, ← hh, hk7]
   | false =>
    rw [hop, ifF] at hh
    rw [ifF, List.nil_append]
    rw [hh, List.append_nil] at hk7
    exact hk7
theorem ZtA (e : Zo) : e.vol ≤ 1000000000 → EX e := by
 refine ZyN (M := fun e => e.vol ≤ 1000000000 → EX e) (fun e ih hv => ?_) e
 intro f N h
 have hve := Zpk e
 have hbc := ZrU e.fBinds
 have hac := Zrm e.fAlts
 have hal := Zsm e.fArgs
 have hbl := ZvL e.fBinds
 have hA : ∃ f1 ρ0, ZaH f e = Zcc e f1.fout f1.fbound f1.fseen ∧ ZL e = Zau ρ0 e ∧ FS f1 (2 * e.vol - 1 + N) ∧ (∀ x, bg f1.fbound x = bg f.fbound x) ∧ f1.fout = ad (pr f.fbound) f.fout ρ0 ∧ ρ0.length ≤ 1 ∧ ρ0.Nodup := by
  rw [ZaH, ZL]
  cases hop : (e.fOp == 2) with
  | true =>
   obtain ⟨f1, h1, h2⟩ := Zuy f e.fName (2 * e.vol - 1 + N) (h.le (by omega))
   refine ⟨f1, [e.fName], by rw [ifT, h1]; rfl, by rw [ifT, Zd6 _ (by simp)]; rfl, h2.fs, h2.bs, h2.out, by simp, by simp⟩
  | false =>
   exact ⟨f, [], by rw [ifF], by rw [ifF], h.le (by omega), fun x => rfl, rfl, by simp, by simp⟩
 obtain ⟨f1, ρ1, a1, a2, a3, a4, a5, a6, a7⟩ := hA
 have p1 : pr f1.fbound = pr f.fbound := ZiN a4
 obtain ⟨f2, ρ2, b1, b2, b3, b4, b5, b6, b7⟩ := ZvK e.fArgs e.fArgs f1 ρ1 0 0 (2 * e.vol - 1 + N - e.fArgs.length) e f.fout (a3.le (by omega)) (by rw [a5, p1]) (by omega)
 have p2 : pr f2.fbound = pr f.fbound := (ZiN b4).trans p1
 have hnm := Zhs e.fBinds (by omega)
 have hnl : (e.fBinds.map (·.fName)).length = e.fBinds.length := List.length_map _
 generalize hnames : e.fBinds.map (·.fName) = names at hnm hnl
 have hR : ZL e = Zax ρ2 names (if e.fRec = true then names else []) e := by
  rw [a2, Zau, b2, ZY]
  show (ZaX e.fBinds >>= _) = _
  rw [hnm.1, ZC]
  cases e.fRec with
  | true => rw [ifT, ifT]
  | false => rw [ifF, ifF]
 have ihb : ∀ b ∈ e.fBinds, EX b.fBody ∧ b.fBody.vol ≤ 1000000000 := fun b hb => by
  have h1 : b.vol ≤ bB e.fBinds := Zgm (f := Zc.cells) hb
  have h2 := ZiL b
  exact ⟨ih _ (by omega) (by omega), by omega⟩
 have ihk : ∀ b ∈ e.fKids, EX b := fun b hb => by
  have h1 : b.vol ≤ kB e.fKids := Zgm (f := Zo.cells) hb
  exact ih _ (by omega) (by omega)
 have iha : ∀ b ∈ e.fAlts, EX b.fBody ∧ b.vol ≤ 1000000000 := fun b hb => by
  have h1 : b.vol ≤ lB e.fAlts := Zgm (f := Zi.cells) hb
  have h2 := Zkc b
  exact ⟨ih _ (by omega) (by omega), by omega⟩
 have hB : ∃ f3 ρ3, ZaH f e = Zbx names e f3.fout f3.fbound f3.fseen ∧ ZL e = Zab ρ3 names 0 e e.fKids ∧ FS f3 (e.fBinds.length + 1 + 2 * kB e.fKids + Zko e.fAlts + N) ∧ (∀ x, bg f3.fbound x = bg f.fbound x) ∧ f3.fout = ad (pr f.fbound) f.fout ρ3 ∧ ρ3.length ≤ 1 + e.fArgs.length + bB e.fBinds ∧ ρ3.Nodup := by
  have hk1 : ZaH f e = if e.fRec = true then (Zaq names e f2 >>= fun r13 => Zbx names e r13.fout r13.fbound r13.fseen) else (ZaP e f2 >>= fun r14 => Zbx names e r14.fout r14.fbound r14.fseen) := by
   rw [a1, Zcc, ZdC, b1, ZC, hnm.2, ZC]
  rw [hk1, hR, Zax]
  cases hrec : e.fRec with
  | true =>
   have h0 : FS f2 (names.length + (Znt e.fBinds + (e.fBinds.length + 1 + 2 * kB e.fKids + Zko e.fAlts + N))) := b3.le (by omega)
   obtain ⟨s1, s2⟩ := Zjy h0
   obtain ⟨f3, ρ3, c1, c2, c3, c4, c5, c6, c7⟩ := Zr1 e names names (pr f.fbound) f.fout e.fBinds ihb _ ρ2 0 0 _ s1 (by show f2.fout = _; rw [b5, p1]) (by rw [← p2]; exact s2) (by omega)
   obtain ⟨m1, m2⟩ := ZjH (r := f3) h0 (by omega) c3 c4
   refine ⟨Zd.mk (dnM f3.fbound names) f3.fseen f3.fout, ρ3, ?_, by rw [ifT]; exact c2, m1, fun x => by rw [m2 x, b4 x, a4 x], c5, by omega, c7 (b7 a7)⟩
   rw [ifT, Zlh, ZaP, c1]; rfl
  | false =>
   obtain ⟨f3, ρ3, c1, c2, c3, c4, c5, c6, c7⟩ := Zr1 e names [] (pr f.fbound) f.fout e.fBinds ihb f2 ρ2 0 0 (e.fBinds.length + 1 + 2 * kB e.fKids + Zko e.fAlts + N) (b3.le (by omega)) (by rw [b5, p1]) (by rw [p2, Zq0]; funext x; simp) (by omega)
   refine ⟨f3, ρ3, ?_, by rw [ifF]; exact c2, c3, fun x => by rw [c4 x, b4 x, a4 x], c5, by omega, c7 (b7 a7)⟩
   rw [ifF, ZaP, c1]; rfl
 obtain ⟨f3, ρ3, c1, c2, c3, c4, c5, c6, c7⟩ := hB
 have p3 : pr f3.fbound = pr f.fbound := ZiN c4
 have h0 : FS f3 (names.length + (2 * kB e.fKids + (1 + Zko e.fAlts + N))) := c3.le (by omega)
 obtain ⟨s1, s2⟩ := Zjy h0
 obtain ⟨f4, ρ4, d1, d2, d3, d4, d5, d6, d7⟩ := Zwq e names (pr f.fbound) f.fout e.fKids ihk _ ρ3 0 0 _ s1 c5 (by rw [← p3]; exact s2) (by omega)
 obtain ⟨m1, m2⟩ := ZjH (r := f4) h0 (by omega) d3 d4
 generalize hf5 : Zd.mk (dnM f4.fbound names) f4.fseen f4.fout = f5 at m1
 have b5' : ∀ x, bg f5.fbound x = bg f.fbound x := fun x => by rw [← hf5]; show bg (dnM f4.fbound names) x = _; rw [m2 x, c4 x]
 have o5 : f5.fout = ad (pr f.fbound) f.fout ρ4 := by rw [← hf5]; exact d5
 have p5 : pr f5.fbound = pr f.fbound := ZiN b5'
 generalize hh : (if (e.fOp == 6) = true then [e.fName] else []) = here
 have hhl : here.length ≤ 1 := by rw [← hh]; split <;> simp
 have h0' : FS f5 (here.length + (Zko e.fAlts + N)) := m1.le (by omega)
 obtain ⟨t1, t2⟩ := Zjy h0'
 obtain ⟨f6, ρ6, g1, g2, g3, g4, g5, g6, g7⟩ := Zwp e hv here hh.symm (pr f.fbound) f.fout e.fAlts [] rfl iha _ ρ4 0 N t1 o5 (by rw [← p5]; exact t2) (by omega)
 obtain ⟨n1, n2⟩ := ZjH (r := f6) h0' (by omega) g3 g4
 refine ⟨ρ6, _, by rw [c2, d2]; exact g2, by omega, g7 (d7 c7), ?_, ⟨n1, fun x => by show bg (dnM f6.fbound here) x = _; rw [n2 x, b5' x], g5⟩⟩
 have hk3 : Zcd here e f5 = some (Zd.mk (dnM f6.fbound here) f6.fseen f6.fout) := by
  rw [Zcd, ZkQ, Zbv, g1]; rfl
 rw [c1, Zbx, Zlr, Zbu]
 show ((ZaT e 0 f3.fout (upM f3.fbound names) f3.fseen e.fKids >>= _) >>= _) = _
 rw [d1, ZC, ZC, hf5]
 rw [← hk3, ← hh]
 cases (e.fOp == 6) with
 | true => rw [ifT, ifT]
 | false => rw [ifF, ifF]
theorem Zjj (e : Zo) (hv : e.vol ≤ 1000000000) : ∃ L, ZL e = some L ∧ Zet e = some L ∧ L.length ≤ e.vol ∧ L.Nodup := by
 obtain ⟨L, f', h1, h2, h6, h3, h4⟩ := ZtA e hv (Zd.mk [] [] []) 0 ⟨fun x => rfl, fun x => Int.le_refl _, fun x => by show (0 : Int) + _ ≤ _; omega, by show 0 + _ ≤ _; omega⟩
 have h5 := h4.out
 rw [show pr (Zd.mk [] [] []).fbound = fun _ => false from rfl] at h5
 refine ⟨L, h1, ?_, h2, h6⟩
 rw [Zet, h3, ZC, h5]
 show some (ad (fun _ => false) [] L) = some L
 rw [Zoi L [] (by simpa using h6)]; rfl

theorem ZAn {α β : Type} {x y : Option α} (h : x = y) (f : α → Option β) : (x >>= f) = (y >>= f) := by rw [h]
def exT : ByteArray := ByteArray.mk #[40, 32, 112, 114, 111, 103, 114, 97, 109, 32, 40, 32, 40, 32, 84, 114, 117, 101, 32, 49, 32, 48, 32, 41, 32, 41, 32, 40, 32, 116, 104, 117, 110, 107, 32, 77, 46, 120, 32, 40, 32, 41, 32, 40, 32, 99, 111, 110, 32, 84, 114, 117, 101, 32, 41, 32, 41, 32, 41]
def wO : ByteArray := ByteArray.mk #[40]
def wC : ByteArray := ByteArray.mk #[41]
def Zd8 : ByteArray := ByteArray.mk #[84, 114, 117, 101]
def ZjA : ByteArray := ByteArray.mk #[112, 114, 111, 103, 114, 97, 109]
def Zhx : ByteArray := ByteArray.mk #[116, 104, 117, 110, 107]
def wMx : ByteArray := ByteArray.mk #[77, 46, 120]
def ZqI : ByteArray := ByteArray.mk #[99, 111, 110]
def w1 : ByteArray := ByteArray.mk #[49]
def w0 : ByteArray := ByteArray.mk #[48]
def exW : List ByteArray := [wO, ZjA, wO, wO, Zd8, w1, w0, wC, wC, wO, Zhx, wMx, wO, wC, wO, ZqI, Zd8, wC, wC, wC]
theorem Zva : strings_Split exT (ByteArray.mk #[32]) = some exW := by
 unfold strings_Split
 rw [Zd6 _ (by decide)]
 refine congrArg some ?_
 decide +kernel
theorem Zzk : Zdd w1 = some (1, false) := by
 unfold Zdd
 rw [Zd6 _ (by decide)]
 refine congrArg some ?_
 unfold Ztg
 rw [show Lib.atoiAll _ = .ok _ from rfl]
 rfl
theorem ZzE : Zdd w0 = some (0, false) := by
 unfold Zdd
 rw [Zd6 _ (by decide)]
 refine congrArg some ?_
 unfold Ztg
 rw [show Lib.atoiAll _ = .ok _ from rfl]
 rfl
theorem Zy9 : strconv_Itoa 1 = some w1 := by
 unfold strconv_Itoa
 rw [Zd6 _ (by decide)]
 refine congrArg some ?_
 unfold ZvA Lib.itoa
 rw [if_neg (by decide), Lib.decDigits, dif_pos (by decide)]
 rfl
theorem ZAL : strconv_Itoa 0 = some w0 := by
 unfold strconv_Itoa
 rw [Zd6 _ (by decide)]
 refine congrArg some ?_
 unfold ZvA Lib.itoa
 rw [if_neg (by decide), Lib.decDigits, dif_pos (by decide)]
 rfl
theorem ZwB : strings_Join exW (ByteArray.mk #[32]) = some exT := by
 unfold strings_Join
 rw [if_pos (by decide +kernel)]
 refine congrArg some ?_
 unfold ZuK
 decide +kernel
theorem ZdP (W : List ByteArray) (k : Nat) (w : ByteArray) (d : Int) (h : W[k]? = some w) (hk : k < 1000) : Zy (Zg.mk W (k : Int) d) = some (w, Zg.mk W ((k + 1 : Nat) : Int) d) := by
 have hl : k < W.length := by
  rcases Nat.lt_or_ge k W.length with h1 | h1
  ·exact h1
  ·rw [List.getElem?_eq_none h1] at h; cases h
 unfold Zy Zar
 show ((if decide ((k : Int) ≥ (W.length : Int)) = true then none else (ixI W (k : Int)) >>= fun x4 => some x4) >>= _) = _
 rw [decide_eq_false (by omega), ifF]
 have : ixI W (k : Int) = some w := by unfold ixI; rw [if_pos (by omega), Int.toNat_natCast, h]
 rw [this, ZC, ZC, w64 (by show _ ≤ (k : Int) + 1; omega) (by show (k : Int) + 1 ≤ _; omega)]
 rfl
theorem ZlC (W : List ByteArray) (k : Nat) (w : ByteArray) (d : Int) (h : W[k]? = some w) : Zar (Zg.mk W (k : Int) d) = some w := by
 have hl : k < W.length := by
  rcases Nat.lt_or_ge k W.length with h1 | h1
  ·exact h1
  ·rw [List.getElem?_eq_none h1] at h; cases h
 unfold Zar
 show (if decide ((k : Int) ≥ (W.length : Int)) = true then none else (ixI W (k : Int)) >>= fun x4 => some x4) = _
 rw [decide_eq_false (by omega), ifF]
 have : ixI W (k : Int) = some w := by unfold ixI; rw [if_pos (by omega), Int.toNat_natCast, h]
 rw [this]; rfl
theorem wd0 (d : Int) : Zy (Zg.mk exW 0 d) = some (wO, Zg.mk exW 1 d) := ZdP exW 0 wO d rfl (by decide)
theorem wd1 (d : Int) : Zy (Zg.mk exW 1 d) = some (ZjA, Zg.mk exW 2 d) := ZdP exW 1 ZjA d rfl (by decide)
theorem wd2 (d : Int) : Zy (Zg.mk exW 2 d) = some (wO, Zg.mk exW 3 d) := ZdP exW 2 wO d rfl (by decide)
theorem wd3 (d : Int) : Zy (Zg.mk exW 3 d) = some (wO, Zg.mk exW 4 d) := ZdP exW 3 wO d rfl (by decide)
theorem pk3 (d : Int) : Zar (Zg.mk exW 3 d) = some wO := ZlC exW 3 wO d rfl
theorem wd4 (d : Int) : Zy (Zg.mk exW 4 d) = some (Zd8, Zg.mk exW 5 d) := ZdP exW 4 Zd8 d rfl (by decide)
theorem wd5 (d : Int) : Zy (Zg.mk exW 5 d) = some (w1, Zg.mk exW 6 d) := ZdP exW 5 w1 d rfl (by decide)
theorem wd6 (d : Int) : Zy (Zg.mk exW 6 d) = some (w0, Zg.mk exW 7 d) := ZdP exW 6 w0 d rfl (by decide)
theorem wd7 (d : Int) : Zy (Zg.mk exW 7 d) = some (wC, Zg.mk exW 8 d) := ZdP exW 7 wC d rfl (by decide)
theorem wd8 (d : Int) : Zy (Zg.mk exW 8 d) = some (wC, Zg.mk exW 9 d) := ZdP exW 8 wC d rfl (by decide)
theorem pk8 (d : Int) : Zar (Zg.mk exW 8 d) = some wC := ZlC exW 8 wC d rfl
theorem wd9 (d : Int) : Zy (Zg.mk exW 9 d) = some (wO, Zg.mk exW 10 d) := ZdP exW 9 wO d rfl (by decide)
theorem pk9 (d : Int) : Zar (Zg.mk exW 9 d) = some wO := ZlC exW 9 wO d rfl
theorem ZB8 (d : Int) : Zy (Zg.mk exW 10 d) = some (Zhx, Zg.mk exW 11 d) := ZdP exW 10 Zhx d rfl (by decide)
theorem ZBR (d : Int) : Zy (Zg.mk exW 11 d) = some (wMx, Zg.mk exW 12 d) := ZdP exW 11 wMx d rfl (by decide)
theorem ZCj (d : Int) : Zy (Zg.mk exW 12 d) = some (wO, Zg.mk exW 13 d) := ZdP exW 12 wO d rfl (by decide)
theorem ZAR (d : Int) : Zy (Zg.mk exW 13 d) = some (wC, Zg.mk exW 14 d) := ZdP exW 13 wC d rfl (by decide)
theorem ZA2 (d : Int) : Zar (Zg.mk exW 13 d) = some wC := ZlC exW 13 wC d rfl
theorem ZBA (d : Int) : Zy (Zg.mk exW 14 d) = some (wO, Zg.mk exW 15 d) := ZdP exW 14 wO d rfl (by decide)
theorem ZBl (d : Int) : Zy (Zg.mk exW 15 d) = some (ZqI, Zg.mk exW 16 d) := ZdP exW 15 ZqI d rfl (by decide)
theorem ZCy (d : Int) : Zy (Zg.mk exW 16 d) = some (Zd8, Zg.mk exW 17 d) := ZdP exW 16 Zd8 d rfl (by decide)
theorem ZBC (d : Int) : Zy (Zg.mk exW 17 d) = some (wC, Zg.mk exW 18 d) := ZdP exW 17 wC d rfl (by decide)
theorem ZAQ (d : Int) : Zar (Zg.mk exW 17 d) = some wC := ZlC exW 17 wC d rfl
theorem ZAT (d : Int) : Zy (Zg.mk exW 18 d) = some (wC, Zg.mk exW 19 d) := ZdP exW 18 wC d rfl (by decide)
theorem ZB3 (d : Int) : Zy (Zg.mk exW 19 d) = some (wC, Zg.mk exW 20 d) := ZdP exW 19 wC d rfl (by decide)
theorem ZBd (d : Int) : Zar (Zg.mk exW 19 d) = some wC := ZlC exW 19 wC d rfl
def exE : Zo := Zo.mk 3 Zd8 [] false [] [] []
def exB : Zc := Zc.mk wMx 2 [] [] exE
def exP : ZG := ZG.mk [ZT.mk Zd8 1 0] [exB]
attribute [local congr] ZAn
theorem Zw3 : IntKind.i64.wrap (0 + 1) = 1 := by decide
theorem ZAx : IntKind.i64.wrap (1 - 1) = 0 := by decide
theorem Zwa (d : Int) : ZbE (Zg.mk exW 17 d) = some ([], Zg.mk exW 17 d) := by
 rw [ZbE, ZbW, ZAQ, ZC, ZjF, show (decide (wC = ByteArray.mk #[40])) = false from by decide, ifF]
theorem Ztp (W : List ByteArray) (k k' : Int) (w v : ByteArray) (d : Int) (h : Zy (Zg.mk W k d) = some (w, Zg.mk W k' d)) (e : w = v) : ZP (Zg.mk W k d) [v] = some (Zg.mk W k' d) := by
 rw [ZP, ZaL]
 show (Zy (Zg.mk W k d) >>= _) = _
 rw [h, ZC]
 show (if (!(w.toList == v.toList)) = true then none else ZaL [v] 1 (Zg.mk W k' d) []) = _
 rw [ZjF, decide_eq_true e, Bool.not_true, ifF, ZaL]
theorem Zs7 (W : List ByteArray) (k k' : Int) (d : Int) (h : Zy (Zg.mk W k d) = some (wO, Zg.mk W k' d)) : ZP (Zg.mk W k d) [ByteArray.mk #[40]] = some (Zg.mk W k' d) := Ztp W k k' wO _ d h rfl
theorem Zp3 (W : List ByteArray) (k k' : Int) (d : Int) (h : Zy (Zg.mk W k d) = some (wC, Zg.mk W k' d)) : ZP (Zg.mk W k d) [ByteArray.mk #[41]] = some (Zg.mk W k' d) := Ztp W k k' wC _ d h rfl
theorem ZwT : Zcj (Zg.mk exW 14 0) = some (exE, Zg.mk exW 18 0) := by
 rw [Zcj]
 show (if decide (IntKind.i64.wrap (0 + 1) > 4000) = true then none else ZP (Zg.mk exW 14 (IntKind.i64.wrap (0 + 1))) [ByteArray.mk #[40]] >>= _) = _
 rw [Zw3, show decide ((1 : Int) > 4000) = false from rfl, ifF, Zs7 exW 14 15 1 (ZBA 1), ZC, ZBl, ZC]
 simp only [ZjF]
 rw [show decide (ZqI = ByteArray.mk #[97, 116, 111, 109]) = false from by decide, ifF, show decide (ZqI = ByteArray.mk #[97, 112, 112]) = false from by decide, ifF, show decide (ZqI = ByteArray.mk #[99, 111, 110]) = true from by decide, ifT, ZCy, ZC]
 show (ZbE (Zg.mk exW 17 1) >>= _) = _
 rw [Zwa, ZC]
 show ZaW exE (Zg.mk exW 17 1) = _
 rw [ZaW, Zp3 exW 17 18 1 (ZBC 1), ZC]
 show some (exE, Zg.mk exW 18 (IntKind.i64.wrap (1 - 1))) = _
 rw [ZAx]
theorem Zwc : Zb4 (Zg.mk exW 12 0) = some ([], Zg.mk exW 14 0) := by
 rw [Zb4, Zs7 exW 12 13 0 (ZCj 0), ZC, ZbU, ZA2, ZC]
 simp only [ZjF]
 rw [show decide (wC = ByteArray.mk #[41]) = true from by decide, Bool.not_true, ifF, Zp3 exW 13 14 0 (ZAR 0), ZC]
theorem Zw0 : ZbY (Zg.mk exW 9 0) = some (exB, Zg.mk exW 19 0) := by
 rw [ZbY, Zs7 exW 9 10 0 (wd9 0), ZC, ZB8, ZC]
 simp only [ZjF]
 rw [show decide (Zhx = ByteArray.mk #[102, 117, 110]) = false from by decide, ifF, show decide (Zhx = ByteArray.mk #[116, 104, 117, 110, 107]) = true from by decide, ifT, Zb9, ZBR, ZC]
 show (Zb4 (Zg.mk exW 12 0) >>= _) = _
 rw [Zwc, ZC, show ((((2 : Nat) : Int) == 1) = false) from rfl, ifF]
 show Zb8 (wMx, Zg.mk exW 12 0) 2 ([], Zg.mk exW 14 0) [] (Zg.mk exW 14 0) = _
 rw [Zb8, ZwT, ZC]
 show (ZP (Zg.mk exW 18 0) _ >>= _) = _
 rw [Zp3 exW 18 19 0 (ZAT 0), ZC]; rfl
theorem ZBa : ZaD (Zg.mk exW 5 0) = some (1, Zg.mk exW 6 0) := by
 rw [ZaD, wd5, ZC]
 show (Zdd w1 >>= _) = _
 rw [Zzk, ZC]; rfl
theorem ZBu : ZaD (Zg.mk exW 6 0) = some (0, Zg.mk exW 7 0) := by
 rw [ZaD, wd6, ZC]
 show (Zdd w0 >>= _) = _
 rw [ZzE, ZC]; rfl
theorem Zwv : ZcC (Zg.mk exW 0 0) = some (exP, Zg.mk exW 20 0) := by
 have hw : ZP (Zg.mk exW 0 0) [ByteArray.mk #[40], ByteArray.mk #[112, 114, 111, 103, 114, 97, 109], ByteArray.mk #[40]] = some (Zg.mk exW 3 0) := by
  rw [ZP, ZaL]
  show (Zy (Zg.mk exW 0 0) >>= _) = _
  rw [wd0, ZC, ZaL]
  show (if (!(wO.toList == (ByteArray.mk #[40]).toList)) = true then none else (Zy (Zg.mk exW 1 0) >>= _)) = _
  rw [ZjF, decide_eq_true (by rfl), Bool.not_true, ifF, wd1, ZC, ZaL]
  show (if (!(ZjA.toList == (ByteArray.mk #[112, 114, 111, 103, 114, 97, 109]).toList)) = true then none else (Zy (Zg.mk exW 2 0) >>= _)) = _
  rw [ZjF, decide_eq_true (by rfl), Bool.not_true, ifF, wd2, ZC, ZaL]
  show (if (!(wO.toList == (ByteArray.mk #[40]).toList)) = true then none else some (Zg.mk exW 3 0)) = _
  rw [ZjF, decide_eq_true (by rfl), Bool.not_true, ifF]
 rw [ZcC, hw, ZC, Za8, pk3, ZC, ZjF, decide_eq_true (by rfl), ifT, Zs7 exW 3 4 0 (wd3 0), ZC, wd4, ZC]
 show (ZaD (Zg.mk exW 5 0) >>= _) = _
 rw [ZBa, ZC]
 show (ZaD (Zg.mk exW 6 0) >>= _) = _
 rw [ZBu, ZC]
 show (ZP (Zg.mk exW 7 0) _ >>= _) = _
 rw [Zp3 exW 7 8 0 (wd7 0), ZC, Zd6 _ (by decide), Za8, pk8, ZC, ZjF, show decide (wC = ByteArray.mk #[40]) = false from by decide, ifF, Zp3 exW 8 9 0 (wd8 0), ZC]
 rw [Zbe, pk9, ZC, ZjF, decide_eq_true (by rfl), ifT, Zw0, ZC, Zd6 _ (by simp), Zbe]
 show (Zar (Zg.mk exW 19 0) >>= _) = _
 rw [ZBd, ZC, ZjF, show decide (wC = ByteArray.mk #[40]) = false from by decide, ifF]
 show (ZP (Zg.mk exW 19 0) _ >>= _) = _
 rw [Zp3 exW 19 20 0 (ZB3 0), ZC]; rfl
theorem ZwK : ZhK exW = some (exP, true) := by
 rw [ZhK, Zwv, ZC]; rfl

theorem Zmk (l : List ByteArray) (f : Zd) (b : Zc) : ZaN l f b = (Zci (Zd.mk (upM f.fbound l) f.fseen f.fout) b >>= fun r => some (Zd.mk (dnM r.fbound l) r.fseen r.fout)) := by
 have h2 : ∀ (s : List ByteArray) (i : Nat) (r : Zd) (m : CM), Z6 l i r m b s = some (Zd.mk (dnM m s) r.fseen r.fout) := by
  intro s
  induction s with
  | nil => intro i r m; rw [Z6]; rfl
  | cons x s ih =>
   intro i r m
   rw [Z6]
   obtain ⟨c, hc⟩ := Zeg m x
   show (Zcf m 0 x >>= _) = _
   rw [hc, ZC]
   exact ih _ _ _
 have h1 : ∀ (s : List ByteArray) (i : Nat) (m : CM), Z7 l i f m b s = (Zci (Zd.mk (upM m s) f.fseen f.fout) b >>= fun r => some (Zd.mk (dnM r.fbound l) r.fseen r.fout)) := by
  intro s
  induction s with
  | nil =>
   intro i m
   rw [Z7]
   show (Zci (Zd.mk m f.fseen f.fout) b >>= _) = (Zci (Zd.mk m f.fseen f.fout) b >>= _)
   congr 1
   funext r
   exact h2 _ _ _ _
  | cons x s ih =>
   intro i m
   rw [Z7]
   obtain ⟨c, hc⟩ := Zeg m x
   show (Zcf m 0 x >>= _) = _
   rw [hc, ZC]
   exact ih _ _
 rw [ZaN]
 exact h1 l 0 _
theorem ZkC (l : List ByteArray) (f : Zh) (b : Zc) : Zak l f b = (Zbj (Zh.mk f.fcons (upM f.flocal l) f.fbad) b >>= fun r => some (Zh.mk r.fcons (dnM r.flocal l) r.fbad)) := by
 have h2 : ∀ (s : List ByteArray) (i : Nat) (r : Zh) (m : CM), ZQ l i r m b s = some (Zh.mk r.fcons (dnM m s) r.fbad) := by
  intro s
  induction s with
  | nil => intro i r m; rw [ZQ]; rfl
  | cons x s ih =>
   intro i r m
   rw [ZQ]
   obtain ⟨c, hc⟩ := Zeg m x
   show (Zcf m 0 x >>= _) = _
   rw [hc, ZC]
   exact ih _ _ _
 have h1 : ∀ (s : List ByteArray) (i : Nat) (m : CM), ZZ l i f m b s = (Zbj (Zh.mk f.fcons (upM m s) f.fbad) b >>= fun r => some (Zh.mk r.fcons (dnM r.flocal l) r.fbad)) := by
  intro s
  induction s with
  | nil =>
   intro i m
   rw [ZZ]
   show (Zbj (Zh.mk f.fcons m f.fbad) b >>= _) = (Zbj (Zh.mk f.fcons m f.fbad) b >>= _)
   congr 1
   funext r
   exact h2 _ _ _ _
  | cons x s ih =>
   intro i m
   rw [ZZ]
   obtain ⟨c, hc⟩ := Zeg m x
   show (Zcf m 0 x >>= _) = _
   rw [hc, ZC]
   exact ih _ _
 rw [Zak]
 exact h1 l 0 _
def chB (c : UInt8) : Bool := decide (33 ≤ c.toNat) && decide (c.toNat ≤ 126)
def ZnM (s : ByteArray) : Bool := !(((decide (s = ByteArray.mk #[]) || decide (s = ByteArray.mk #[40])) || decide (s = ByteArray.mk #[41])) || decide (158 < s.size)) && s.data.toList.all chB
theorem Zwf (s : ByteArray) (k : Nat) : btI s ((k : Nat) : Int) = s.data.toList[k]? := by
 unfold btI
 rw [if_pos (Int.natCast_nonneg k), Int.toNat_natCast]
 rcases Nat.lt_or_ge k s.size with h | h
 ·rw [getElem?_pos s k h, List.getElem?_eq_getElem (by simpa using h)]; rfl
 ·rw [getElem?_neg s k (by omega), List.getElem?_eq_none (by simpa using h)]
theorem szL (s : ByteArray) : s.data.toList.length = s.size := by simp
theorem Zxe (s : ByteArray) (hs : s.size ≤ 158) : ∀ (d k : Nat), s.size - k = d → ZdM s k = some ((s.data.toList.drop k).all chB) ∧ ZdE s k = some ((s.data.toList.drop k).all chB) := by
 intro d
 induction d with
 | zero =>
  intro k hk
  rw [ZdM, ZdE, decide_eq_false (by omega), ifF, List.drop_eq_nil_of_le (by rw [szL]; omega)]
  exact ⟨rfl, rfl⟩
 | succ d ih =>
  intro k hk
  have hlt : k < s.data.toList.length := by rw [szL]; omega
  have hd : s.data.toList.drop k = s.data.toList[k] :: s.data.toList.drop (k + 1) := List.drop_eq_getElem_cons hlt
  have hg : s.data.toList[k]? = some s.data.toList[k] := List.getElem?_eq_getElem hlt
  rw [ZdM, ZdE, decide_eq_true (by omega), ifT, ifT, Zwf, hd, hg]
  generalize s.data.toList[k] = y
  obtain ⟨i1, i2⟩ := ih (k + 1) (by omega)
  rw [List.all_cons]
  simp only [ZC]
  have hc : (if decide (((y.toNat : Nat) : Int) < 33) = true then some true else some (decide (((y.toNat : Nat) : Int) > 126))) = some (!chB y) := by
   unfold chB
   by_cases h1 : y.toNat < 33
   ·rw [decide_eq_true (show ((y.toNat : Nat) : Int) < 33 by omega), ifT, decide_eq_false (show ¬ 33 ≤ y.toNat by omega)]; rfl
   ·rw [decide_eq_false (show ¬ ((y.toNat : Nat) : Int) < 33 by omega), ifF, decide_eq_true (show 33 ≤ y.toNat by omega)]
    congr 1
    by_cases h2 : y.toNat ≤ 126
    ·rw [decide_eq_true h2, decide_eq_false (by omega)]; rfl
    ·rw [decide_eq_false h2, decide_eq_true (by omega)]; rfl
  rw [hc]
  simp only [ZC]
  cases chB y with
  | true => rw [Bool.not_true, ifF, ifF, Zd6 _ (by omega), Zd6 _ (by omega), i1, i2]; exact ⟨rfl, rfl⟩
  | false => rw [Bool.not_false, ifT, ifT]; exact ⟨rfl, rfl⟩
theorem ZlB (s : ByteArray) : Zdy s = some (ZnM s) ∧ ZhZ s = some (ZnM s) := by
 rw [Zdy, ZhZ]
 simp only [ZjF]
 unfold ZnM
 have hsz : decide (((s.size : Nat) : Int) > 158) = decide (158 < s.size) := decide_eq_decide.2 (by omega)
 rw [hsz]
 by_cases h : 158 < s.size
 ·rw [decide_eq_true h]
  simp
 ·obtain ⟨h1, h2⟩ := Zxe s (by omega) _ 0 rfl
  rw [decide_eq_false h, h1, h2, Bool.or_false, Bool.or_false, List.drop_zero]
  cases decide (s = ByteArray.mk #[]) <;> cases decide (s = ByteArray.mk #[40]) <;> cases decide (s = ByteArray.mk #[41]) <;> simp
def Zv6 : List ByteArray → List ByteArray → Bool
 | _, [] => true
 | seen, x :: l => (ZnM x && !decide (x ∈ seen)) && Zv6 (seen ++ [x]) l
theorem ZmC (l : List ByteArray) : ZcV l = some (Zv6 [] l) := by
 have key : ∀ (s seen : List ByteArray) (m : List (ByteArray × Bool)) (i : Nat), (∀ x, sg m x = decide (x ∈ seen)) → Zb0 l i m s = some (Zv6 seen s) := by
  intro s
  induction s with
  | nil => intro seen m i _; rw [Zb0]; rfl
  | cons x s ih =>
   intro seen m i hm
   rw [Zb0, Zv6]
   show (Zdy x >>= _) = _
   rw [(ZlB x).1, ZC]
   obtain ⟨b, hb⟩ := ZrX m x
   rw [hb, hm x]
   have hn := ih (seen ++ [x]) (ZcQ m x true) (i + 1) (fun y => by
    rw [Zu6, hm y]
    by_cases e : y = x
    ·rw [if_pos e, decide_eq_true (by simp [e])]
    ·rw [if_neg e]; apply decide_eq_decide.2; simp [e])
   rw [hn]
   cases ZnM x <;> cases decide (x ∈ seen) <;> rfl
 exact key l [] [] 0 (fun x => rfl)
theorem ZiY (c : Zh) (b : Bool) : Zae c b = some (Zh.mk c.fcons c.flocal (c.fbad || !b)) := by
 unfold Zae
 cases b with
 | true => rw [Bool.not_true, ifF, Bool.or_false]
 | false => rw [Bool.not_false, ifT, Bool.or_true]
theorem Zsd (b : Zc) (hv : b.vol ≤ 1000000000) : ∃ L, ZL b.fBody = some L ∧ L.length ≤ b.fBody.vol ∧ L.Nodup ∧ Za0 b = some (ad (mb b.fParams) [] L) ∧ Zd1 b = some (ad (mb b.fParams) [] L) := by
 have hb := ZiL b
 have hp := Zpt b.fParams
 obtain ⟨L, h1, h2, h3, h6⟩ := Zjj b.fBody (by omega)
 have h0 : FS (Zd.mk [] [] []) (b.fParams.length + (2 * b.fBody.vol + 0)) := ⟨fun x => rfl, fun x => Int.le_refl _, fun x => by show (0 : Int) + _ ≤ _; omega, by show 0 + _ ≤ _; omega⟩
 obtain ⟨s1, s2⟩ := Zjy h0
 obtain ⟨L', r, k1, k2, k5, k3, k4⟩ := ZtA b.fBody (by omega) _ 0 s1
 rw [h1] at k1
 injection k1 with k1
 subst k1
 refine ⟨L, h1, h3, h6, ?_, ?_⟩
 ·rw [Za0, h1, ZC, Zip _ _ _ (by simp; omega)]; rfl
 ·rw [Zd1, Zmk, Zci, k3]
  show some r.fout = _
  rw [k4.out, s2]
  show some (ad (fun x => pr [] x || mb b.fParams x) [] L) = _
  rw [Zxn]
  congr 2

theorem ZsX : ZnM Zd8 = true := by decide +kernel
theorem Zw6 : ZnM wMx = true := by decide +kernel
theorem Zvc : ZcB exE = some 1 := by
 rw [ZcB]
 show Zdk 0 exE 0 [] = _
 rw [Zdk]
 show Zdg 0 exE 0 [] = _
 rw [Zdg]
 show Zdn 0 exE 0 [] = _
 rw [Zdn]
 show some (IntKind.i64.wrap (0 + 1)) = _
 rw [Zw3]
theorem Zvo : ZaV exE = some 1 := by
 rw [ZaV]
 show ZbT (IntKind.i64.wrap (1 + 0)) exE 0 [] = _
 rw [ZbT]
 show ZbH (IntKind.i64.wrap (1 + 0)) exE 0 [] = _
 rw [ZbH]
 show ZbK (IntKind.i64.wrap (1 + 0)) exE 0 [] = _
 rw [ZbK, show IntKind.i64.wrap (1 + 0) = 1 from by decide]
theorem Zv0 : ZL exE = some [] := by
 rw [ZL]
 show (if ((3 : Int) == 2) = true then _ else Zau [] exE) = _
 rw [show ((3 : Int) == 2) = false from rfl, ifF, Zau]
 show ZY [] 0 exE [] = _
 rw [ZY]
 show (ZaX [] >>= _) = _
 rw [(Zhs [] (by simp)).1, ZC]
 show (if false = true then _ else Zax [] [] [] exE) = _
 rw [ifF, Zax]
 show Zap [] [] [] 0 exE [] = _
 rw [Zap]
 show Zab [] [] 0 exE [] = _
 rw [Zab]
 show Zai [] 0 exE = _
 rw [Zai]
 rfl
theorem Zxh : Zd1 exB = some [] := by
 obtain ⟨L, h1, h2, h3, h4, h5⟩ := Zsd exB (by show ZbR _ ≤ _; decide +kernel)
 have h1 : ZL exE = some L := h1
 rw [Zv0] at h1
 injection h1 with h1
 subst h1
 exact h5
theorem Zuc : ZgO exE = some true := by
 rw [ZgO]
 show (Zdy Zd8 >>= _) = _
 rw [(ZlB Zd8).1, ZsX, ZC]
 simp only [ZjF]
 rw [show decide (exE.fName = ByteArray.mk #[]) = false from by decide]
 rfl
theorem ZwO (c : Zh) (h : Zg6 Zd8 c.fcons = some 0) : ZcG c Zd8 0 = some c := by
 rw [ZcG]
 have : Zcf c.fcons 0 Zd8 = some (0, true) := by unfold Zcf; rw [h]
 rw [this, ZC]
 show (Zae c (!true || ((0 : Int) == 0)) >>= _) = _
 rw [ZiY, ZC]
 show some (Zh.mk c.fcons c.flocal (c.fbad || false)) = _
 rw [Bool.or_false]
def exC : CM := [(Zd8, 0)]
theorem ZuU : ZbF (Zh.mk exC [] false) exE = some (Zh.mk exC [] false) := by
 rw [ZbF, Zuc, ZC, ZiY, ZC]
 show (if false = true then _ else ZbA exE 0 false exC [] []) = _
 rw [ifF, ZbA]
 show (ZcG (Zh.mk exC [] false) Zd8 0 >>= _) = _
 rw [ZwO _ (by unfold exC Zg6; rw [Zrj, decide_eq_true rfl, ifT]), ZC]
theorem Zud : Zbq (Zh.mk exC [] false) exB true = some (Zh.mk exC [] false) := by
 rw [Zbq]
 show (Zae (Zh.mk exC [] false) (((([] : List ByteArray).length : Nat) : Int) == 0) >>= _) = _
 rw [ZiY, ZC]
 show Zbh true exB false exC [] = _
 rw [Zbh]
 show (Zdy wMx >>= _) = _
 rw [(ZlB wMx).1, Zw6, ZC, ifT]
 show ((ZcV [] >>= _) >>= _) = _
 rw [ZmC, ZC, ZC, ZiY, ZC, Zxh, ZC, ZbV]
 show (ZbX [] [] >>= _) = _
 rw [show ZbX [] [] = some true from by rw [ZbX, Zbm]; rfl, ZC, ZiY, ZC]
 show (Zak [] (Zh.mk exC [] false) exB >>= _) = _
 rw [ZkC, Zbj]
 show (((ZbF (Zh.mk exC [] false) exE >>= _) >>= _) >>= _) = _
 rw [ZuU]; rfl
theorem Zsb : Ze6 exP = some 0 := by
 rw [Ze6]
 show Zdm 0 exP 0 [exB] = _
 rw [Zdm]
 show (ZcB exE >>= _) = _
 rw [Zvc, ZC, show decide ((1 : Int) > 4000) = false from rfl, ifF]
 show (ZaV exE >>= _) = _
 rw [Zvo, ZC, show IntKind.i64.wrap (0 + 1) = 1 from by decide, Zdm]
 show ZcW exP 0 [] [] false [ZT.mk Zd8 1 0] = _
 rw [ZcW]
 show (Zdy Zd8 >>= _) = _
 rw [(ZlB Zd8).1, ZsX, ZC, ZiY, ZC]
 show ZcW exP 1 exC [] false [] = _
 rw [ZcW]
 show (ZeL [exB] >>= _) = _
 rw [(Zhs [exB] (by simp)).2, ZC, ZmC, ZC, ZiY, ZC]
 rw [show Zv6 [] ([exB].map (·.fName)) = true from by show ((ZnM wMx && !decide (wMx ∈ ([] : List ByteArray))) && true) = true; rw [Zw6]; rfl]
 show ZcX exP 0 exC [] false [exB] = _
 rw [ZcX]
 show (Zae (Zh.mk exC [] false) (((([] : List ByteArray).length : Nat) : Int) == 0) >>= _) = _
 rw [ZiY, ZC]
 show (Zbq (Zh.mk exC [] false) exB true >>= _) = _
 rw [Zud, ZC]
 show ZcX exP 1 exC [] false [] = _
 rw [ZcX]
 rfl
theorem ZwH (l n : List ByteArray) (h : l.length + n.length ≤ 1000) : ZfS l n = some (((l ++ [wO]) ++ n) ++ [wC]) := by
 rw [ZfS, Zd6 _ (by simp; omega), Zd6 _ (by simp; omega), Zd6 _ (by simp; omega)]
 rfl
theorem Zsa : ZeH exP = some exT := by
 rw [ZeH, Zsb, ZC]
 show Zdl [wO, ZjA, wO] exP 0 [ZT.mk Zd8 1 0] = _
 rw [Zdl]
 show (strconv_Itoa 1 >>= fun r59 => strconv_Itoa 0 >>= _) = _
 rw [Zy9, ZC, ZAL, ZC, Zd6 _ (by simp), Zdl]
 rw [Zd6 _ (by simp)]
 show Zdf [wO, ZjA, wO, wO, Zd8, w1, w0, wC, wC] exP 0 [exB] = _
 rw [Zdf]
 have hput : Zgw [wO, ZjA, wO, wO, Zd8, w1, w0, wC, wC, wO, Zhx, wMx, wO, wC] exE = some [wO, ZjA, wO, wO, Zd8, w1, w0, wC, wC, wO, Zhx, wMx, wO, wC, wO, ZqI, Zd8, wC] := by
  rw [Zgw, Zd6 _ (by simp)]
  show (ZaY _ >>= fun _ => Zda _ exE) = _
  rw [Zd6 _ (by simp), Zda]
  show ZeE [wO, ZjA, wO, wO, Zd8, w1, w0, wC, wC, wO, Zhx, wMx, wO, wC, wO, ZqI, Zd8] exE 0 [] = _
  rw [ZeE, Zd6 _ (by simp)]
  rfl
 have hb : Zc6 [wO, ZjA, wO, wO, Zd8, w1, w0, wC, wC] exB = some [wO, ZjA, wO, wO, Zd8, w1, w0, wC, wC, wO, Zhx, wMx, wO, wC, wO, ZqI, Zd8, wC, wC] := by
  rw [Zc6]
  show Zdi _ Zhx exB = _
  rw [Zdi]
  show Zdj _ Zhx exB = _
  rw [Zdj, Zd6 _ (by simp)]
  show (ZfS [wO, ZjA, wO, wO, Zd8, w1, w0, wC, wC, wO, Zhx, wMx] [] >>= _) = _
  rw [ZwH _ _ (by simp), ZC]
  show Zde [wO, ZjA, wO, wO, Zd8, w1, w0, wC, wC, wO, Zhx, wMx, wO, wC] exB = _
  rw [Zde]
  show (Zgw _ exE >>= _) = _
  rw [hput, ZC, Zd6 _ (by simp)]
  rfl
 show (Zc6 _ exB >>= _) = _
 rw [hb, ZC, Zdf, Zd6 _ (by simp)]
 show (strings_Join exW _ >>= _) = _
 rw [ZwB, ZC]
def exF : Zo := Zo.mk 2 (ByteArray.mk #[102]) [Zq.mk 1 (ByteArray.mk #[120]) 0, Zq.mk 1 (ByteArray.mk #[102]) 0] false [] [] []
theorem ZuM : Zet exF = some [ByteArray.mk #[102], ByteArray.mk #[120]] := by
 obtain ⟨L, h1, h2, h3, h4⟩ := Zjj exF (by show ZbR _ ≤ _; decide +kernel)
 rw [h2]
 have : ZL exF = some [ByteArray.mk #[102], ByteArray.mk #[120]] := by
  rw [ZL]
  show (ZaY _ >>= fun _ => Zau [ByteArray.mk #[102]] exF) = _
  rw [Zd6 _ (by simp), Zau]
  show ZY _ 0 exF [Zq.mk 1 (ByteArray.mk #[120]) 0, Zq.mk 1 (ByteArray.mk #[102]) 0] = _
  rw [ZY]
  show (Zbi [ByteArray.mk #[102]] [ByteArray.mk #[120]] [] >>= _) = _
  rw [Zip _ _ _ (by simp), ZC, ZY]
  show (Zbi (ad (mb []) [ByteArray.mk #[102]] [ByteArray.mk #[120]]) [ByteArray.mk #[102]] [] >>= _) = _
  have e1 : ad (mb []) [ByteArray.mk #[102]] [ByteArray.mk #[120]] = [ByteArray.mk #[102], ByteArray.mk #[120]] := by decide +kernel
  rw [e1, Zip _ _ _ (by simp), ZC]
  have e2 : ad (mb []) [ByteArray.mk #[102], ByteArray.mk #[120]] [ByteArray.mk #[102]] = [ByteArray.mk #[102], ByteArray.mk #[120]] := by decide +kernel
  rw [e2, ZY]
  show (ZaX [] >>= _) = _
  rw [(Zhs [] (by simp)).1, ZC]
  generalize [ByteArray.mk #[102], ByteArray.mk #[120]] = X
  show (if false = true then _ else Zax X [] [] exF) = _
  rw [ifF, Zax]
  show Zap X [] [] 0 exF [] = _
  rw [Zap]
  show Zab X [] 0 exF [] = _
  rw [Zab]
  show Zai X 0 exF = _
  rw [Zai]
  rfl
 rw [this] at h1
 injection h1 with h1
 rw [h1]
theorem ZvX : ZaV exF = some 3 := by
 rw [ZaV]
 show ZbT (IntKind.i64.wrap (1 + 2)) exF 0 [] = _
 rw [ZbT]
 show ZbH (IntKind.i64.wrap (1 + 2)) exF 0 [] = _
 rw [ZbH]
 show ZbK (IntKind.i64.wrap (1 + 2)) exF 0 [] = _
 rw [ZbK, show IntKind.i64.wrap (1 + 2) = 3 from by decide]
theorem ZuJ : ZfT exT = some (exP, ZhU.mk 0 (ByteArray.mk #[]) 0 0) := by
 rw [ZfT, Zva, ZC, ZwK, ZC]
 show ((if (!true) = true then some true else Ze6 exP >>= _) >>= _) = _
 rw [Zsb, Bool.not_true, ifF, ZC, ZC]
 show ((if false = true then some true else ZeH exP >>= _) >>= _) = _
 rw [ifF, Zsa, ZC, ZC, ZjF, decide_eq_true rfl]
 rfl
theorem ZyV : Zbf = some true := by
 rw [Zbf]
 show (ZfT exT >>= fun r1 => Zet exF >>= _) = _
 rw [ZuJ, ZC, ZuM, ZC]
 simp only [ZjF, decide_true]
 show ((if true = true then ZeH exP >>= _ else some false) >>= _) = _
 rw [ifT, Zsa, ZC, ZC]
 rw [show decide (exT = ByteArray.mk #[40, 32, 112, 114, 111, 103, 114, 97, 109, 32, 40, 32, 40, 32, 84, 114, 117, 101, 32, 49, 32, 48, 32, 41, 32, 41, 32, 40, 32, 116, 104, 117, 110, 107, 32, 77, 46, 120, 32, 40, 32, 41, 32, 40, 32, 99, 111, 110, 32, 84, 114, 117, 101, 32, 41, 32, 41, 32, 41]) = true from decide_eq_true rfl]
 show ((if true = true then some (decide (ByteArray.mk #[102] = ByteArray.mk #[102])) else some false) >>= _) = _
 rw [ifT, ZC, decide_eq_true rfl, ifT]
 show (some (decide (ByteArray.mk #[120] = ByteArray.mk #[120])) >>= _) = _
 rw [ZC, decide_eq_true rfl, ifT]
 show ((ZaV exF >>= _) >>= _) = _
 rw [ZvX]
 rfl

theorem Zqn (l : List ByteArray) : ZcF l l = some true := by
 have key : ∀ (s pre : List ByteArray), l = pre ++ s → Zbt l l pre.length s = some true := by
  intro s
  induction s with
  | nil => intro pre _; rw [Zbt]
  | cons x s ih =>
   intro pre hp
   have hg : l[pre.length]? = some x := by rw [hp]; simp
   have := ih (pre ++ [x]) (by rw [hp]; simp)
   rw [List.length_append] at this
   rw [Zbt]
   show (l[pre.length]? >>= _) = _
   rw [hg, ZC, ZjF, decide_eq_true rfl, Bool.not_true, ifF]
   exact this
 rw [ZcF, show ((((l.length : Nat) : Int) != ((l.length : Nat) : Int)) = false) from by simp, ifF]
 exact key l [] rfl
theorem ZuW (e : Zo) (h : e.vol ≤ 1000000000) : ∃ b, Zdc e = some b := by
 obtain ⟨n, _, hn⟩ := Zwz e h
 obtain ⟨m, _, _, hm⟩ := Zm7 e h
 rw [Zdc, hn, ZC, hm]
 cases decide (((n : Nat) : Int) ≤ 60) with
 | true => exact ⟨_, rfl⟩
 | false => exact ⟨_, rfl⟩
theorem Zrk (e : Zo) (h : e.vol ≤ 1000000000) : ZcA e = some true := by
 obtain ⟨b, hb⟩ := ZuW e h
 obtain ⟨L, h1, h2, h3, h4⟩ := Zjj e h
 obtain ⟨m, _, hm1, hm2⟩ := Zm7 e h
 rw [ZcA, hb, ZC, ZyV, h2, h1, hm1, hm2]
 cases b with
 | false => rfl
 | true =>
  rw [Bool.not_true, ifF, ZC, ZC, Zqn, ZC, ifT, ZC, ZC, ZC]
  rw [show ((((m : Nat) : Int)) == ((m : Nat) : Int)) = true from by simp, ifT, ZC, ZC]
theorem Zoz (P : ByteArray → Bool) : ∀ (l out : List ByteArray), l.Nodup → ad P out l = out ++ l.filter (fun x => !P x && !decide (x ∈ out))
 | [], out, h => by simp [ad]
 | x :: l, out, h => by
  have hx := (List.nodup_cons.1 h).1
  have hl := (List.nodup_cons.1 h).2
  rw [ad, List.filter_cons]
  cases hp : P x <;> cases hd : decide (x ∈ out)
  ·rw [Bool.or_self, ifF, Zoz P l (out ++ [x]) hl]
   show _ = out ++ (if true = true then x :: _ else _)
   rw [ifT, List.append_assoc]
   congr 1
   show x :: _ = x :: _
   congr 1
   apply List.filter_congr
   intro y hy
   have : y ≠ x := fun e => hx (e ▸ hy)
   congr 2
   apply decide_eq_decide.2
   simp [this]
  ·rw [Bool.or_false, ifT, Zoz P l out hl]; rfl
  ·rw [Bool.or_true, ifT, Zoz P l out hl]; rfl
  ·rw [Bool.or_self, ifT, Zoz P l out hl]; rfl
def Ziu (s : ByteArray) : Zo := Zo.mk 1 (ByteArray.mk #[]) [Zq.mk 1 s 0] false [] [] []
def ZpO (e : Zo) : Zi := Zi.mk 4 (ByteArray.mk #[]) 0 [] e
def Zfp (e : Zo) (s n : ByteArray) : Zo := Zo.mk 6 n [] false [] [Ziu s] [ZpO e]
theorem ZvJ (s : ByteArray) : ZL (Ziu s) = some [s] := by
 rw [ZL]
 show Zau [] (Ziu s) = _
 rw [Zau]
 show ZY [] 0 (Ziu s) [Zq.mk 1 s 0] = _
 rw [ZY]
 show (Zbi [] [s] [] >>= _) = _
 rw [Zip _ _ _ (by simp), ZC]
 have : ad (mb []) [] [s] = [s] := by rw [Zq0, Zoi [s] [] (by simp)]; rfl
 rw [this, ZY]
 show (ZaX [] >>= _) = _
 rw [(Zhs [] (by simp)).1, ZC]
 show Zax [s] [] [] (Ziu s) = _
 rw [Zax]
 show Zap [s] [] [] 0 (Ziu s) [] = _
 rw [Zap]
 show Zab [s] [] 0 (Ziu s) [] = _
 rw [Zab]
 show Zai [s] 0 (Ziu s) = _
 rw [Zai]
 rfl
theorem ZtZ (e : Zo) (s n : ByteArray) (L : List ByteArray) (hL : ZL e = some L) (hl : L.length ≤ 1000000000) : ZL (Zfp e s n) = some (ad (mb [n]) [s] L) := by
 rw [ZL]
 show Zau [] (Zfp e s n) = _
 rw [Zau]
 show ZY [] 0 (Zfp e s n) [] = _
 rw [ZY]
 show (ZaX [] >>= _) = _
 rw [(Zhs [] (by simp)).1, ZC]
 show Zax [] [] [] (Zfp e s n) = _
 rw [Zax]
 show Zap [] [] [] 0 (Zfp e s n) [] = _
 rw [Zap]
 show Zab [] [] 0 (Zfp e s n) [Ziu s] = _
 rw [Zab]
 show (ZL (Ziu s) >>= _) = _
 rw [ZvJ, ZC, Zip _ _ _ (by simp), ZC]
 have : ad (mb []) [] [s] = [s] := by rw [Zq0, Zoi [s] [] (by simp)]; rfl
 rw [this, Zab, Zai]
 rw [show (decide ((((0 : Nat) : Int)) < (((Zfp e s n).fAlts.length : Nat) : Int))) = true from rfl, ifT, show (Zfp e s n).fAlts[0]? = some (ZpO e) from rfl, ZC, Zd6 _ (by simp [ZpO, Zi.fVars]), show ((Zfp e s n).fOp == 6) = true from rfl, ifT, Zd6 _ (by simp [ZpO, Zi.fVars])]
 show Zbw [s] 0 [n] (Zfp e s n) = _
 rw [Zbw]
 show (ZL e >>= _) = _
 rw [hL, ZC, Zip _ _ _ (by simp; omega), ZC, Zai]
 rfl
theorem ZwW (s n : ByteArray) (e : Zo) (r : List ByteArray) (F : List ByteArray → Option Bool) (hF : ∀ (w : List ByteArray) (i : Nat), Zat s n w r i e [] = F w) : ∀ (l w : List ByteArray) (i : Nat), w.length + l.length ≤ 2000000000 →
  Zat s n w r i e l = F (w ++ l.filter (fun x => !mb [n] x && !decide (x ∈ [s]))) := by
 intro l
 induction l with
 | nil => intro w i _; rw [hF]; simp
 | cons x l ih =>
  intro w i hw
  rw [List.length_cons] at hw
  rw [Zat, List.filter_cons]
  show (if ((!(x.toList == n.toList)) && (!(x.toList == s.toList))) = true then _ else _) = _
  rw [ZjF, ZjF, show mb [n] x = decide (x = n) from by unfold mb; apply decide_eq_decide.2; simp, show decide (x ∈ [s]) = decide (x = s) from by apply decide_eq_decide.2; simp]
  cases hc : (!decide (x = n) && !decide (x = s)) with
  | true => rw [ifT, ifT, Zd6 _ (by simp; omega), ih _ _ (by simp; omega)]; congr 1; simp
  | false => rw [ifF, ifF, ih _ _ (by omega)]
theorem Zt0 (e : Zo) (s n : ByteArray) (m : Nat) (hm : ZaV e = some ((m : Nat) : Int)) (hb : m ≤ 1000000000) : ZaV (Zfp e s n) = some ((m + 4 : Nat) : Int) := by
 have hk : ZaV (Ziu s) = some 2 := by
  rw [ZaV]
  show ZbT (IntKind.i64.wrap (1 + 1)) (Ziu s) 0 [] = _
  rw [ZbT]
  show ZbH (IntKind.i64.wrap (1 + 1)) (Ziu s) 0 [] = _
  rw [ZbH]
  show ZbK (IntKind.i64.wrap (1 + 1)) (Ziu s) 0 [] = _
  rw [ZbK, show IntKind.i64.wrap (1 + 1) = 2 from by decide]
 rw [ZaV]
 show ZbT (IntKind.i64.wrap (1 + 0)) (Zfp e s n) 0 [] = _
 rw [ZbT]
 show ZbH (IntKind.i64.wrap (1 + 0)) (Zfp e s n) 0 [ZpO e] = _
 rw [ZbH]
 show (ZaV e >>= _) = _
 rw [hm, ZC, ZbH]
 show ZbK _ (Zfp e s n) 0 [Ziu s] = _
 rw [ZbK]
 show (ZaV (Ziu s) >>= _) = _
 rw [hk, ZC, ZbK]
 rw [show IntKind.i64.wrap (1 + 0) = 1 from by decide, w64 (x := 1 + ((m : Nat) : Int)) (by omega) (by omega), w64 (x := 1 + (1 + ((m : Nat) : Int))) (by omega) (by omega), w64 (by omega) (by omega)]
 congr 1
 omega
theorem Zwk (e : Zo) (s n : ByteArray) : (Zfp e s n).vol ≤ e.vol + s.size + n.size + 100 := by
 have h1 := Zpk (Zfp e s n)
 have h2 := Zpk (Ziu s)
 have h3 := Zkc (ZpO e)
 have k1 : aB (Ziu s).fArgs = s.size + 3 := by show aB [Zq.mk 1 s 0] = _; rw [Ztc]; rfl
 have k2 : (Zfp e s n).fKids = [Ziu s] := rfl
 have k3 : (Zfp e s n).fAlts = [ZpO e] := rfl
 have k4 : (ZpO e).fBody = e := rfl
 have k5 : (Zfp e s n).fName = n := rfl
 have z1 : aB (Zfp e s n).fArgs = 0 := rfl
 have z2 : bB (Zfp e s n).fBinds = 0 := rfl
 have z3 : bB (Ziu s).fBinds = 0 := rfl
 have z4 : kB (Ziu s).fKids = 0 := rfl
 have z5 : lB (Ziu s).fAlts = 0 := rfl
 have z6 : (Ziu s).fName.size = 0 := rfl
 have z7 : (ZpO e).fName.size = 0 := rfl
 have z8 : sB (ZpO e).fVars = 0 := rfl
 rw [k2, k3, ZmZ, Zlw, k5, z1, z2, show kB [] = 0 from rfl, show lB [] = 0 from rfl] at h1
 rw [k1, z3, z4, z5, z6] at h2
 rw [k4, z7, z8] at h3
 omega
theorem ZpQ (e : Zo) (s n : ByteArray) (h : e.vol + s.size + n.size ≤ 100000000) : Zb7 e s n = some true := by
 obtain ⟨b, hb⟩ := ZuW e (by omega)
 obtain ⟨L, h1, h2, h3, h4⟩ := Zjj e (by omega)
 obtain ⟨m, hm, hm1, _⟩ := Zm7 e (by omega)
 have hcv := Zwk e s n
 obtain ⟨L', c1, c2, c3, c4⟩ := Zjj (Zfp e s n) (by omega)
 rw [ZtZ e s n L h1 (by omega)] at c1
 injection c1 with c1
 subst c1
 rw [Zb7, hb, ZC, ZyV]
 cases b with
 | false => rfl
 | true =>
  rw [Bool.not_true, ifF, h2, ZC]
  rw [ZwW s n e L (fun w => Zet (Zfp e s n) >>= fun r50 => ZcF r50 w >>= fun r51 => (if r51 = true then ZaV (Zfp e s n) >>= fun r52 => ZaV e >>= fun r53 => some (r52 == (IntKind.i64.wrap (r53 + 4))) else some false) >>= fun c54 => (if c54 = true then Zbf >>= fun r55 => some r55 else some false) >>= fun c56 => some c56) (fun w i => by rw [Zat]; rfl) L [s] 0 (by simp; omega)]
  rw [← Zoz (mb [n]) L [s] h4, c2, ZC, Zqn, ZC, ifT, Zt0 e s n m hm1 (by omega), ZC, hm1, ZC, w64 (by omega) (by omega)]
  rw [show ((((m + 4 : Nat) : Int)) == ((m : Nat) : Int) + 4) = true from by rw [beq_iff_eq]; omega, ZyV]
  rfl

theorem Zp4 {W : World} (h : Lib.TabIs Tryz.prog W "internal/strconv.uint64pow10" .u64 Lib.pow10Tab) : ∀ x ∈ Zmp, old W x.1 x.2.1 ∧ x.2.2 (W.cell? ⟨x.1, x.2.1, none⟩) := by
 have hg : Tryz.prog.globalNamed "internal/strconv.uint64pow10" = some 1 := by kernel_rfl
 unfold Lib.TabIs World.var? at h
 rw [hg] at h
 simp only [Option.bind_some] at h
 split at h
 case h_2 => cases h
 rename_i cs t f hc
 injection h with h
 have hlt : 1 < W.heap.size := by
  rcases Nat.lt_or_ge 1 W.heap.size with h1 | h1
  ·exact h1
  ·rw [Array.getElem?_eq_none h1] at hc; cases hc
 have hcell : ∀ i, W.cell? ⟨1, i, none⟩ = (Lib.pow10Tab[i]?).map fun z => Value.int .u64 z := fun i => by
  have e0 : ((Lib.pow10Tab.map fun z => Value.int .u64 z).toArray)[i]? = (Lib.pow10Tab.map fun z => Value.int .u64 z)[i]? := List.getElem?_toArray
  simp only [World.cell?, hc, Option.isSome_none, Bool.false_eq_true, if_false, h]
  rw [e0, List.getElem?_map]
 intro x hx
 rcases List.mem_cons.1 hx with rfl | hx
 ·refine ⟨hlt, ?_⟩
  show ZpI (W.cell? ⟨1, 20, none⟩)
  rw [hcell]; rfl
 ·obtain ⟨i, hi, rfl⟩ := List.mem_map.1 hx
  have hi := List.mem_range.1 hi
  refine ⟨hlt, ?_⟩
  show Zqu i (W.cell? ⟨1, i, none⟩)
  rw [hcell, Lib.pow10Tab, List.getElem?_map, List.getElem?_range hi]
  rfl
theorem tab_third {W : World} {a b : String × DataW Unit} {r : List (String × DataW Unit)} (h : laidMet Tryz.prog (a :: b :: ("internal/strconv.uint64pow10", Lib.tabData .u64 Lib.pow10Tab) :: r) W) : Lib.TabIs Tryz.prog W "internal/strconv.uint64pow10" .u64 Lib.pow10Tab :=
 Lib.tabIs_of_head (g := 1) (t := 178) (e := 160) (n := 20) (by kernel_rfl) (by kernel_rfl) (by kernel_rfl) (by kernel_rfl) (by kernel_rfl) (by kernel_rfl) h.tail.tail
theorem globs0 {W : World} (h : Lib.TabIs Tryz.prog W "internal/strconv.uint64pow10" .u64 Lib.pow10Tab) (hr : ZeO = []) : ZiX Tryz.prog W (old W) := fun x hx => Zp4 h x (by
 have hx : x ∈ Zmp ++ ZeO := hx
 rwa [hr, List.append_nil] at hx)

theorem ZsG {P : Program} {W : World} {sp : Nat → Bool} {fuel t : Nat} {ms : Array (String × TypeId)} {nm : String} {d : DataW Unit} {p : List MemPlace} (hi : P.underlying t = some (.interface ms)) :
  ∀ cs : List Value, DataW.trod (fun _ => ()) P W 0 sp false fuel t cs = some (.iface nm d, p) → ∃ u v, cs = [.iface u v] := by
 intro cs h
 cases fuel with
 | zero => simp [DataW.trod] at h
 | succ fuel =>
  unfold DataW.trod at h
  rw [hi] at h
  split at h <;> first | (cases h; done) | (simp at h; done) | exact ⟨_, _, rfl⟩ | simp_all
theorem Zr6 {P : Program} {n nm : String} {d : DataW Unit} {r : List (String × DataW Unit)} {W : World} {g ti : Nat} {ms : Array (String × TypeId)} (h : laidMet P ((n, .iface nm d) :: r) W) (hg : P.globalNamed n = some g)
  (ht : (P.globals[g]?).map (·.type) = some ti) (hi : P.underlying ti = some (.interface ms)) : ∃ u v, W.cell? ⟨g, 0, none⟩ = some (.iface u v) := by
 obtain ⟨ps, ⟨g', t, cs, fuel, p, q, h1, h2, h3, h4, h5, h6⟩, hn, hc⟩ := h
 obtain rfl := Option.some.inj (hg.symm.trans h1)
 obtain rfl := Option.some.inj (ht.symm.trans h2)
 obtain ⟨u, v, hcs⟩ := ZsG hi cs.toList h4
 have := World.var?_cell hg h3 0
 refine ⟨u, v, ?_⟩
 rw [this, ← Array.getElem?_toList, hcs]; rfl
theorem Zpw {W : World} {g : Nat} {v : Value} (h : W.cell? ⟨g, 0, none⟩ = some v) : g < W.heap.size := by
 unfold World.cell? at h
 rcases Nat.lt_or_ge g W.heap.size with h1 | h1
 ·exact h1
 ·simp only [Array.getElem?_eq_none h1] at h; cases h
theorem globs_full {W : World} {a b c d : String × DataW Unit} {n1 n2 : String} {d1 d2 : DataW Unit} {r : List (String × DataW Unit)} (h : Lib.TabIs Tryz.prog W "internal/strconv.uint64pow10" .u64 Lib.pow10Tab) (hS : W.ShapedOpen Tryz.prog)
  (hL : laidMet Tryz.prog (a :: b :: c :: d :: ("strconv.ErrRange", .iface n1 d1) :: ("strconv.ErrSyntax", .iface n2 d2) :: r) W) : ZiX Tryz.prog W (old W) := fun x hx => by
 have hx : x ∈ Zmp ++ ZeO := hx
 rcases List.mem_append.1 hx with hx | hx
 ·exact Zp4 h x hx
 ·unfold ZeO at hx
  simp only [List.mem_cons, List.not_mem_nil, or_false] at hx
  rcases hx with rfl | rfl | rfl
  ·obtain ⟨m, hm⟩ := cell_of_shapedOpen_int (zero := #[.int .i64 0]) (t := 3) hS (of_decide_eq_true (by kernel_rfl)) (by kernel_rfl) rfl (by kernel_rfl) (by kernel_rfl) Tryz.underlying3
   exact ⟨Zpw hm, m, hm⟩
  ·obtain ⟨u, v, he⟩ := Zr6 (g := 4) (ti := 118) hL.tail.tail.tail.tail.tail (by kernel_rfl) (by kernel_rfl) Tryz.underlying118
   exact ⟨Zpw he, _, he, .inr ⟨u, v, rfl⟩⟩
  ·obtain ⟨u, v, he⟩ := Zr6 (g := 5) (ti := 118) hL.tail.tail.tail.tail (by kernel_rfl) (by kernel_rfl) Tryz.underlying118
   exact ⟨Zpw he, _, he, .inr ⟨u, v, rfl⟩⟩

mutual
theorem Zoj {H : Type} : ∀ d : DataW H, Rows.uptoBulk d = ZhI d
 | .lit l => by cases l <;> simp [Rows.uptoBulk, ZhI]
 | .nil => by simp [Rows.uptoBulk, ZhI]
 | .ptr d => by simp [Rows.uptoBulk, ZhI, Zoj d]
 | .slice es sp => by simp [Rows.uptoBulk, ZhI, ZkN es, ZkN sp]
 | .agg ps => by simp [Rows.uptoBulk, ZhI, ZkN ps]
 | .iface _ d => by simp [Rows.uptoBulk, ZhI, Zoj d]
 | .map es => by simp [Rows.uptoBulk, ZhI, Zqh es]
 | .held _ => by simp [Rows.uptoBulk, ZhI]
theorem ZkN {H : Type} : ∀ l : List (DataW H), Rows.uptoBulkAll l = bulks l
 | [] => by simp [Rows.uptoBulkAll, bulks]
 | d :: l => by simp [Rows.uptoBulkAll, bulks, Zoj d, ZkN l]
theorem Zqh {H : Type} : ∀ l : List (Lit × DataW H), Rows.uptoBulkEntries l = Zpe l
 | [] => by simp [Rows.uptoBulkEntries, Zpe]
 | x :: l => by simp [Rows.uptoBulkEntries, Zpe, Zwi x, Zqh l]
theorem Zwi {H : Type} : ∀ x : Lit × DataW H, Rows.uptoBulkEntry x = Zvx x
 | (l, d) => by cases l <;> simp [Rows.uptoBulkEntry, Zvx, Zoj d]
end
theorem upto_bulks {H : Type} {ds : List (DataW H)} (h : Rows.uptoSmall H ds = true) : bulks ds ≤ 1048576 := by
 have h := of_decide_eq_true h
 rwa [ZkN] at h

theorem Zww {es : List E} (h : Sh tab 49 es) : ∃ a : Zq, es = a.cells := by
 obtain ⟨parts, rfl, hl, hf⟩ := Znr h (fs := [(47, 0), (9, 1), (3, 2)]) rfl
 obtain ⟨a, b, c, rfl⟩ := ZzV hl
 obtain ⟨op, rfl, _⟩ := Zk8 (hf 0 47 0 a rfl rfl) (k := .i64) rfl
 obtain ⟨name, rfl, _⟩ := ZgJ (hf 1 9 1 b rfl rfl) rfl
 obtain ⟨n, rfl, _⟩ := Zk8 (hf 2 3 2 c rfl rfl) (k := .i64) rfl
 exact ⟨⟨op, name, n⟩, rfl⟩
theorem ZyF {es : List E} (h : Sh tab 69 es) : ∃ a : ZT, es = a.cells := by
 obtain ⟨parts, rfl, hl, hf⟩ := Znr h (fs := [(9, 0), (3, 1), (3, 2)]) rfl
 obtain ⟨a, b, c, rfl⟩ := ZzV hl
 obtain ⟨name, rfl, _⟩ := ZgJ (hf 0 9 0 a rfl rfl) rfl
 obtain ⟨m, rfl, _⟩ := Zk8 (hf 1 3 1 b rfl rfl) (k := .i64) rfl
 obtain ⟨n, rfl, _⟩ := Zk8 (hf 2 3 2 c rfl rfl) (k := .i64) rfl
 exact ⟨⟨name, m, n⟩, rfl⟩
theorem Zpr {es : List E} (h : Sh tab 44 es) : ∃ l : List ByteArray, es = [.sl (l.map c_S)] := by
 obtain ⟨rows, h1, _, hr⟩ := ZpH h (e := 9) rfl
 obtain ⟨l, rfl⟩ := Zix (f := c_S) rows fun row hm => by
  obtain ⟨s, hs, _⟩ := ZgJ (hr row hm) rfl
  exact ⟨s, hs⟩
 exact ⟨l, h1⟩
theorem Zv3 {es : List E} (h : Sh tab 37 es) : ∃ l : List Zq, es = [.sl (l.map Zq.cells)] := by
 obtain ⟨rows, h1, _, hr⟩ := ZpH h (e := 49) rfl
 obtain ⟨l, rfl⟩ := Zix (f := Zq.cells) rows fun row hm => Zww (hr row hm)
 exact ⟨l, h1⟩
theorem Zwx {es : List E} (h : Sh tab 22 es) : ∃ l : List ZT, es = [.sl (l.map ZT.cells)] := by
 obtain ⟨rows, h1, _, hr⟩ := ZpH h (e := 69) rfl
 obtain ⟨l, rfl⟩ := Zix (f := ZT.cells) rows fun row hm => ZyF (hr row hm)
 exact ⟨l, h1⟩
theorem ZB7 {α : Type} {l : List α} (h : l.length = 7) : ∃ a b c d e f g, l = [a, b, c, d, e, f, g] := by
 match l, h with
 | [a, b, c, d, e, f, g], _ => exact ⟨a, b, c, d, e, f, g, rfl⟩
structure Zy8 (t : Nat) (es : List E) : Prop where
 e : t = 41 → ∃ v : Zo, es = v.cells
 b : t = 57 → ∃ v : Zc, es = v.cells
 a : t = 52 → ∃ v : Zi, es = v.cells
 bs : t = 23 → ∃ l : List Zc, es = [.sl (l.map Zc.cells)]
 ks : t = 38 → ∃ l : List Zo, es = [.sl (l.map Zo.cells)]
 al : t = 39 → ∃ l : List Zi, es = [.sl (l.map Zi.cells)]
theorem Zlz {t : Nat} {k : TK} {es : List E} (hk : (tab.ti t).k = k) (h1 : ∀ fs, k ≠ .struct fs) (h2 : ∀ e, k ≠ .slice e) : Zy8 t es :=
 ⟨fun ht => by subst ht; exact absurd hk.symm (h1 _), fun ht => by subst ht; exact absurd hk.symm (h1 _), fun ht => by subst ht; exact absurd hk.symm (h1 _), fun ht => by subst ht; exact absurd hk.symm (h2 _), fun ht => by subst ht; exact absurd hk.symm (h2 _), fun ht => by subst ht; exact absurd hk.symm (h2 _)⟩
theorem ZqM {t : Nat} {es : List E} (h : Sh tab t es) : Zy8 t es := by
 induction h with
 | bool t b h => exact Zlz h (by simp) (by simp)
 | int t k n h hn => exact Zlz h (by simp) (by simp)
 | string t s h hs => exact Zlz h (by simp) (by simp)
 | array t n e parts h hl hf => exact Zlz h (by simp) (by simp)
 | slice t e rows h hl hr ih =>
  refine ⟨fun ht => (by subst ht; cases h), fun ht => (by subst ht; cases h), fun ht => (by subst ht; cases h), fun ht => ?_, fun ht => ?_, fun ht => ?_⟩
  ·subst ht
   have he : e = 57 := by injection h with h; exact h.symm
   subst he
   obtain ⟨l, rfl⟩ := Zix (f := Zc.cells) rows fun row hm => by
    obtain ⟨i, hi, rfl⟩ := List.mem_iff_getElem.1 hm
    exact (ih i _ (List.getElem?_eq_getElem hi)).b rfl
   exact ⟨l, rfl⟩
  ·subst ht
   have he : e = 41 := by injection h with h; exact h.symm
   subst he
   obtain ⟨l, rfl⟩ := Zix (f := Zo.cells) rows fun row hm => by
    obtain ⟨i, hi, rfl⟩ := List.mem_iff_getElem.1 hm
    exact (ih i _ (List.getElem?_eq_getElem hi)).e rfl
   exact ⟨l, rfl⟩
  ·subst ht
   have he : e = 52 := by injection h with h; exact h.symm
   subst he
   obtain ⟨l, rfl⟩ := Zix (f := Zi.cells) rows fun row hm => by
    obtain ⟨i, hi, rfl⟩ := List.mem_iff_getElem.1 hm
    exact (ih i _ (List.getElem?_eq_getElem hi)).a rfl
   exact ⟨l, rfl⟩
 | struct t fs parts h hl hf ih =>
  refine ⟨fun ht => ?_, fun ht => ?_, fun ht => ?_, fun ht => (by subst ht; cases h), fun ht => (by subst ht; cases h), fun ht => (by subst ht; cases h)⟩
  ·subst ht
   have he : fs = [(36, 0), (9, 1), (37, 2), (4, 3), (23, 4), (38, 5), (39, 6)] := by injection h with h; exact h.symm
   subst he
   obtain ⟨a, b, c, d, e, f, g, rfl⟩ := ZB7 hl
   obtain ⟨op, rfl, _⟩ := Zk8 (hf 0 36 0 a rfl rfl) (k := .i64) rfl
   obtain ⟨name, rfl, _⟩ := ZgJ (hf 1 9 1 b rfl rfl) rfl
   obtain ⟨args, rfl⟩ := Zv3 (hf 2 37 2 c rfl rfl)
   obtain ⟨rc, rfl⟩ := ZwE (hf 3 4 3 d rfl rfl) rfl
   obtain ⟨bs, rfl⟩ := (ih 4 23 4 e rfl rfl).bs rfl
   obtain ⟨ks, rfl⟩ := (ih 5 38 5 f rfl rfl).ks rfl
   obtain ⟨al, rfl⟩ := (ih 6 39 6 g rfl rfl).al rfl
   exact ⟨.mk op name args rc bs ks al, by rw [Zo.cells_eq]; rfl⟩
  ·subst ht
   have he : fs = [(9, 0), (55, 1), (44, 2), (44, 3), (41, 4)] := by injection h with h; exact h.symm
   subst he
   obtain ⟨a, b, c, d, e, rfl⟩ := ZzA hl
   obtain ⟨name, rfl, _⟩ := ZgJ (hf 0 9 0 a rfl rfl) rfl
   obtain ⟨op, rfl, _⟩ := Zk8 (hf 1 55 1 b rfl rfl) (k := .i64) rfl
   obtain ⟨fr, rfl⟩ := Zpr (hf 2 44 2 c rfl rfl)
   obtain ⟨ps, rfl⟩ := Zpr (hf 3 44 3 d rfl rfl)
   obtain ⟨body, rfl⟩ := (ih 4 41 4 e rfl rfl).e rfl
   exact ⟨.mk name op fr ps body, by rw [Zc.cells_eq, Zo.cells_eq]; rfl⟩
  ·subst ht
   have he : fs = [(50, 0), (9, 1), (3, 2), (44, 3), (41, 4)] := by injection h with h; exact h.symm
   subst he
   obtain ⟨a, b, c, d, e, rfl⟩ := ZzA hl
   obtain ⟨op, rfl, _⟩ := Zk8 (hf 0 50 0 a rfl rfl) (k := .i64) rfl
   obtain ⟨name, rfl, _⟩ := ZgJ (hf 1 9 1 b rfl rfl) rfl
   obtain ⟨n, rfl, _⟩ := Zk8 (hf 2 3 2 c rfl rfl) (k := .i64) rfl
   obtain ⟨vs, rfl⟩ := Zpr (hf 3 44 3 d rfl rfl)
   obtain ⟨body, rfl⟩ := (ih 4 41 4 e rfl rfl).e rfl
   exact ⟨.mk op name n vs body, by rw [Zi.cells_eq, Zo.cells_eq]; rfl⟩
theorem prog_of {es : List E} (h : Sh tab 25 es) : ∃ p : ZG, es = p.cells := by
 obtain ⟨parts, rfl, hl, hf⟩ := Znr h (fs := [(22, 0), (23, 1)]) rfl
 obtain ⟨a, b, rfl⟩ := ZB1 hl
 obtain ⟨cs, rfl⟩ := Zwx (hf 0 22 0 a rfl rfl)
 obtain ⟨bs, rfl⟩ := (ZqM (hf 1 23 1 b rfl rfl)).bs rfl
 exact ⟨⟨cs, bs⟩, rfl⟩
theorem stgFree_true {a : List E} (ha : Sh tab 41 a) (hB : ZbR a ≤ 1048576) : CallsA Tryz.prog 4 [.agg a] (fun r => r = .c none (.v (.bool true))) := by
 obtain ⟨a, rfl⟩ := (ZqM ha).e rfl
 have h := Zkz a true (Zrk a (by show ZbR _ ≤ _; omega))
 unfold ZcA.M at h
 rw [Zo.cells_eq]
 exact Zn.mono h fun d b h => h.1
theorem stgBinder_true {a : List E} {b c : E} (ha : Sh tab 41 a) (hb : Sh tab 9 [b]) (hc : Sh tab 9 [c]) (hB : ZbR a + ZbR [b] + ZbR [c] ≤ 1048576) : CallsA Tryz.prog 5 [.agg a, .c none b, .c none c] (fun r => r = .c none (.v (.bool true))) := by
 obtain ⟨a, rfl⟩ := (ZqM ha).e rfl
 obtain ⟨s, hs, _⟩ := ZgJ hb rfl
 obtain ⟨n, hn, _⟩ := ZgJ hc rfl
 injection hs with hs
 injection hn with hn
 subst hs
 subst hn
 simp only [ZbR, Zku] at hB
 have h := ZjE a s n true (ZpQ a s n (by show ZbR _ + _ + _ ≤ _; omega))
 unfold Zb7.M at h
 rw [Zo.cells_eq]
 exact Zn.mono h fun d b h => h.1

end Go.Proofs.YtklkaikbpciepaaGreatDoor
