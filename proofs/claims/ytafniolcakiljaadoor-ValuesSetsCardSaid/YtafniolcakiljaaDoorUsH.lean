/- Part 8 of the proof: the program's functions as Lean functions with their walks, and the plain law. It holds for every input, without conditions. -/
import Derived.Lib.AppendIntMem
import Derived.Test.YtafniolcakiljaaDoorUsA
import Derived.Test.YtafniolcakiljaaDoorUsB
import Derived.Test.YtafniolcakiljaaDoorUsC
import Derived.Test.YtafniolcakiljaaDoorUsD
import Derived.Test.YtafniolcakiljaaDoorUsE
import Derived.Test.YtafniolcakiljaaDoorUsF
import Derived.Test.YtafniolcakiljaaDoorUsG
set_option linter.unusedVariables false
set_option linter.unusedSimpArgs false
set_option maxRecDepth 100000
set_option maxHeartbeats 4000000
namespace Go.Proofs.YtafniolcakiljaaDoor
open Go Go.Am Go.RowKit
theorem Zhg {P : Program} [Gl P] {f : FuncId} {args : List D} {d0 : D} (h : CallsA P f args fun d => d = d0) : Zj P f args [] fun d b => d = d0 ∧ b = [] :=
 ⟨h.1, fun w S0 M0 ZT ρ hv hr => (h.2 w S0 M0 ZT ρ hv hr).mono fun e w' ⟨v, r, bx', St', ρ', h1, h2, h3, h4⟩ =>
  ⟨v, r, [], St', ρ', h1, ⟨h2, rfl⟩, h3, h4.less ⟨fun i => .inr (.inl rfl), fun n cs hb => by cases hb⟩⟩⟩
theorem ZqN {α : Type} {ZT : Array α} (h : ZT.size = 1) : ∃ a, ZT = #[a] := by
 obtain ⟨l⟩ := ZT
 match l, h with
 | [a], _ => exact ⟨a, rfl⟩
theorem ZoL {α : Type} {ZT : Array α} (h : ZT.size = 2) : ∃ a b, ZT = #[a, b] := by
 obtain ⟨l⟩ := ZT
 match l, h with
 | [a, b], _ => exact ⟨a, b, rfl⟩
theorem Za2 {w : World} {St : Zu} {s : Value} {x : Value} (h : Zae w St (.v s) x) : x = s := by
 cases h; rfl
def Zpf (xs : List ByteArray) (sep : ByteArray) : ByteArray := ⟨(Lib.join (xs.map (·.data.toList)) sep.data.toList).toArray⟩
def strings_Join (xs : List ByteArray) (sep : ByteArray) : Option ByteArray :=
 if xs.length ≤ 140737488355328 ∧ (Lib.join (xs.map (·.data.toList)) sep.data.toList).length ≤ 140737488355328 then some (Zpf xs sep) else none
theorem ZlM (xs : List ByteArray) (sep : ByteArray) (hN : xs.length ≤ 140737488355328) (hlen : (Lib.join (xs.map (·.data.toList)) sep.data.toList).length ≤ 140737488355328) :
  CallsA Tryd.prog 54 [.c none (.sl (xs.map c_S)), .c none (.v (.string sep))] (fun r => r = .c none (.v (.string (Zpf xs sep)))) := by
 refine CallsA.of_calls ⟨_, Tryd.func54, by decide, rfl⟩ fun w St ρ ZT hv hr hlt hG => ?_
 obtain ⟨a, b, rfl⟩ := ZoL hv
 obtain ⟨A, c, rfl, h1, h2, h3⟩ := Zll (show Zae w St (.sl (xs.map fun x => [.v (.string x)])) a from Zz.plain (hr 0) rfl)
 obtain rfl := Za2 (show Zae w St (.v (.string sep)) b from (hr 1).val)
 rcases Decidable.em (xs = []) with rfl | hne
 ·refine (Tryd.strings_Join_none A c sep w).mono ?_
  rintro e w' ⟨rfl, rfl⟩
  exact ⟨_, rfl, rfl, rfl, Below.refl _ _⟩
 ·obtain ⟨bk, o, rfl, hs, hcell⟩ := h3 hne
  refine (Tryd.strings_Join bk o c xs sep w hcell (hlt _ _ hs) hN h1 hlen).mono ?_
  rintro e w' ⟨rfl, bel⟩
  exact ⟨_, rfl, rfl, rfl, bel⟩
theorem Zh1 (xs : List ByteArray) (sep r : ByteArray) (h : strings_Join xs sep = some r) : strings_Join.M xs sep r := by
 unfold strings_Join at h
 split at h
 ·rename_i hc; injection h with h; subst h; exact Zhg (ZlM xs sep hc.1 hc.2)
 ·cases h
def strings_Compare (a b : ByteArray) : Option Int := some (Lib.compareBytes a.data.toList b.data.toList)
theorem Zgi (a b : ByteArray) (r : Int) (h : strings_Compare a b = some r) : strings_Compare.M a b r := by
 injection h with h; subst h
 refine Zhg (CallsA.of_calls ⟨_, Tryd.func80, by decide, rfl⟩ fun w St ρ ZT hv hr hlt hG => ?_)
 obtain ⟨x, y, rfl⟩ := ZoL hv
 obtain rfl := Za2 (show Zae w St (.v (.string a)) x from (hr 0).val)
 obtain rfl := Za2 (show Zae w St (.v (.string b)) y from (hr 1).val)
 refine (Tryd.strings_Compare _ _ w).mono ?_
 rintro e w' ⟨rfl, rfl⟩
 exact ⟨_, rfl, rfl, rfl, Below.refl _ _⟩
def Zqr (i : Int) : ByteArray := ⟨(Lib.itoa i).toArray⟩
def strconv_Itoa (i : Int) : Option ByteArray := ZaF (-9223372036854775808 ≤ i ∧ i ≤ 9223372036854775807) >>= fun _ => some (Zqr i)
theorem ZpI (w : World) (St : Zu) (hG : Zfi Tryd.prog w St) : Lib.TabIs Tryd.prog w "internal/strconv.uint64pow10" .u64 Lib.pow10Tab := by
 have h0 : Zij (w.cell? ⟨5, 20, none⟩) := (hG (5, 20, Zij) (List.mem_append_left _ (List.mem_cons_self ..))).2
 have h1 : ∀ i, i < 20 → w.cell? ⟨5, i, none⟩ = some (.int .u64 ((10 ^ i : Nat) : Int)) := fun i hi =>
  (hG (5, i, Zj3 i) (List.mem_append_left _ (List.mem_cons_of_mem _ (List.mem_map.2 ⟨i, List.mem_range.2 hi, rfl⟩)))).2
 have hg : Tryd.prog.globalNamed "internal/strconv.uint64pow10" = some 5 := by kernel_rfl
 unfold Lib.TabIs World.var?
 rw [hg]
 have h2 := h1 0 (by decide)
 unfold Zij at h0
 unfold World.cell? at h0 h1 h2
 simp only [Option.bind_some]
 split at h2
 case h_2 => cases h2
 rename_i c t f hc
 simp only [hc, Option.isSome_none, Bool.false_eq_true, if_false] at h0 h1 ⊢
 congr 1
 apply Array.ext_getElem?
 intro i
 have e0 : ((Lib.pow10Tab.map fun z => Value.int .u64 z).toArray)[i]? = (Lib.pow10Tab.map fun z => Value.int .u64 z)[i]? := List.getElem?_toArray
 rw [e0, Lib.pow10Tab, List.getElem?_map, List.getElem?_map]
 by_cases hi : i < 20
 ·rw [h1 i hi, List.getElem?_range hi]; rfl
 ·have : c.size ≤ 20 := by
   rcases Nat.lt_or_ge 20 c.size with h | h
   ·rw [Array.getElem?_eq_getElem h] at h0; cases h0
   ·exact h
  rw [Array.getElem?_eq_none (by omega), List.getElem?_eq_none (by simp; omega)]; rfl
theorem Zl0 (w : World) (os : Array Obj) (k : Nat) : Below w.heap.size w (Sort.grow (w.drewN k) os) := Lib.below_grow _ w (Nat.le_refl _) k os
theorem Zdt (i : Int) (r : ByteArray) (h : strconv_Itoa i = some r) : strconv_Itoa.M i r := by
 unfold strconv_Itoa at h
 obtain ⟨hc, h⟩ := ZH h
 obtain rfl := Zg h
 refine Zhg (CallsA.of_calls ⟨_, Tryd.func76, by decide, rfl⟩ fun w St ρ ZT hv hr hlt hG => ?_)
 obtain ⟨a, rfl⟩ := ZqN hv
 obtain rfl := Za2 (show Zae w St (.v (.int .i64 i)) a from (hr 0).val)
 refine (Tryd.strconv_Itoa i hc.1 hc.2 w (ZpI w St hG)).mono ?_
 rintro e w' ⟨rfl, k, os, rfl⟩
 exact ⟨_, rfl, rfl, rfl, Zl0 w os k⟩

set_option synthInstance.maxHeartbeats 1000000
set_option synthInstance.maxSize 1000
open Go Go.Am
mutual
def Z8 (v : Zb) : Option (Int) :=
 ZQ 0 v 0 v.fKids
 partial_fixpoint
def ZQ (n_3 : Int) (v : Zb) (x_9 : Nat) (Zbn : (List Zb)) : Option (Int) :=
 (match Zbn with
 | x11 :: Zlz =>
 Z8 x11 >>= fun r14 =>
 ZQ (if r14 > n_3 then r14 else n_3) v (x_9 + 1) Zlz
 | [] =>
 some (IntKind.i64.wrap (n_3 + 1)))
 partial_fixpoint
end
def Z8.M (v : Zb) (r : Int) : Prop :=
 Zj Tryd.prog 41 [.agg [.v (.int .i64 v.fOp), .v (.string v.fName), .v (.int .i64 v.fN), .sl (v.fKids.map Zb.cells), .v (.bool v.fSet.fAll), .sl (v.fSet.fList.map Ze.cells)]] [] (fun d b => d = .c none (.v (.int .i64 r)) ∧ b = [])
def ZQ.M (n_3 : Int) (v : Zb) (x_9 : Nat) (Zbn : (List Zb)) (r : Int) : Prop :=
 ∀ ZdG : List Zb, v.fKids = ZdG ++ Zbn → x_9 = ZdG.length → v.fKids.length ≤ maxLen → AWL Tryd.prog 20 (Code.sub (ZF Tryd.f41) [1, 1, 0, 1, 0, 0]) (Code.cont Tryd.prog 20 (ZF Tryd.f41) [1, 1, 0, 1, 0] (ZcP tab Tryd.f41.results (Zde (.c none (.v (.int .i64 r))) []))) ⟨[(3, .c none (.v (.int .i64 n_3))), (7, .c none (.sl (v.fKids.map Zb.cells))), (8, .c none (.v (.int .i64 ((v.fKids.length : Nat) : Int)))), (9, .c none (.v (.int .i64 ((x_9 : Nat) : Int))))], []⟩
theorem ZeF : (∀ (v : Zb), ∀ r, Z8 v = some r → Z8.M v r) ∧ (∀ (n_3 : Int) (v : Zb) (x_9 : Nat) (Zbn : (List Zb)), ∀ r, ZQ n_3 v x_9 Zbn = some r → ZQ.M n_3 v x_9 Zbn r) := by
 refine Z8.mutual_partial_correctness Z8.M ZQ.M ?_ ?_
 ·intro values_depth_l1' Zcn v r hF
  unfold Z8.M
  refine en Tryd.func41 ?_
  refine AWP.seq ?_
  refine ns ?_
  refine AWP.seq ?_
  refine ns ?_
  refine AWP.seq ?_
  refine AWP.seq ?_
  refine ns ?_
  intro hlen1
  (try rw [List.length_map] at hlen1)
  (try rw [List.length_map])
  refine st ?_
  refine AWP.block ?_
  refine AWP.loop ?_
  refine AWL.weak (rn []) ?_ (Zcn 0 v 0 v.fKids _ hF ([]) rfl rfl hlen1)
  exact (WS.mk (tc (tc (tc (tc Zd)))) Zc)
 ·intro values_depth' values_depth_l1' ZhW Zcn n_3 v x_9 Zbn r hF
  unfold ZQ.M
  intro ZdG Zil ZiD hlen1
  refine AWL.step ?_
  refine AWP.seq ?_
  refine ns ?_
  refine AWP.seq ?_
  refine nw ?_
  refine Z6 Zil ZiD (fun x11 Zlz ZlK ZpF Zql => ?_) (fun ZlK => ?_)
  ·subst ZlK
   refine nw ?_
   refine AWP.seq ?_
   refine AWP.block ?_
   refine AWP.seq ?_
   refine nn ?_
   refine sr (ZaD (f := Zb.cells) (Zb.cells_eq x11) ZpF) ?_
   refine st ?_
   obtain ⟨r14, ZnK, hF⟩ := bind_some hF
   refine ns ?_
   refine e3 ?_
   refine st ?_
   refine cm (Zj.weak (rn []) (ZhW x11 _ ZnK) rfl (WS.mk (Za (Zo (lc (lc (lc (lc (lc (lc Zm))))))) Zd) Zc)) ?_
   refine st ?_
   refine ns ?_
   refine AWL.weak (rn []) ?_ (Zcn (if r14 > n_3 then r14 else n_3) v (x_9 + 1) Zlz _ hF (ZdG ++ [x11]) (by rw [Zil]; simp) (by rw [ZiD]; simp) hlen1)
   exact (WS.mk (tc (tc (tc (Za (Zy (Zd2 (Zau hlen1 Zql))) Zd)))) Zc)
  ·subst ZlK
   refine nw ?_
   refine AWP.seq ?_
   refine ns ?_
   obtain rfl := Zg hF
   refine ns ?_
   refine Exists.intro [] ?_
   refine st ?_
   exact wx (WS.mk (tc Zd) Zc)
theorem ZhX : ∀ (v : Zb), ∀ r, Z8 v = some r → Z8.M v r := ZeF.1
theorem values_depth_l1_ok : ∀ (n_3 : Int) (v : Zb) (x_9 : Nat) (Zbn : (List Zb)), ∀ r, ZQ n_3 v x_9 Zbn = some r → ZQ.M n_3 v x_9 Zbn r := ZeF.2

def Zv (s : ByteArray) (i_3 : Nat) : Option (Bool) :=
 if (decide (((i_3 : Nat) : Int) < ((s.size : Nat) : Int))) = true then
 (btI s ((i_3 : Nat) : Int)) >>= fun y40 =>
 (if (decide (((y40.toNat : Nat) : Int) < 33)) = true then some true else (btI s ((i_3 : Nat) : Int)) >>= fun y41 =>
 some (decide (((y41.toNat : Nat) : Int) > 126))) >>= fun c42 =>
 if c42 = true then
 some false
 else
 ZaF (i_3 + 1 ≤ 9223372036854775807) >>= fun _ =>
 Zv s (i_3 + 1)
 else
 (btI s 0) >>= fun y46 =>
 (if (decide (((y46.toNat : Nat) : Int) ≥ 65)) = true then (btI s 0) >>= fun y47 =>
 some (decide (((y47.toNat : Nat) : Int) ≤ 90)) else some false) >>= fun c48 =>
 (if c48 = true then some true else (btI s 0) >>= fun y49 =>
 some (((y49.toNat : Nat) : Int) == 58)) >>= fun c50 =>
 (if c50 = true then some true else (btI s 0) >>= fun y51 =>
 some (((y51.toNat : Nat) : Int) == 91)) >>= fun c52 =>
 (if c52 = true then some true else (btI s 0) >>= fun y53 =>
 some (((y53.toNat : Nat) : Int) == 40)) >>= fun c54 =>
 some c54
 partial_fixpoint
def Zv.M (s : ByteArray) (i_3 : Nat) (r : Bool) : Prop :=
 AWL Tryd.prog 54 (Code.sub (ZF Tryd.f58) [1, 1, 0, 1, 0, 0]) (Code.cont Tryd.prog 54 (ZF Tryd.f58) [1, 1, 0, 1, 0] (ZcP tab Tryd.f58.results (Zde (.c none (.v (.bool r))) []))) ⟨[(0, .c none (.v (.string s))), (3, .c none (.v (.int .i64 ((i_3 : Nat) : Int))))], []⟩
theorem Zef (s : ByteArray) (i_3 : Nat) : ∀ r, Zv s i_3 = some r → Zv.M s i_3 r := by
 refine Zv.partial_correctness s (fun i_3 r => Zv.M s i_3 r) ?_ i_3
 intro values_constructor_l1' ZbU i_3 r hF
 have Zeg := fun (_s : ByteArray) (i_3 : Nat) => ZbU i_3
 clear ZbU
 unfold Zv.M
 refine AWL.step ?_
 refine AWP.seq ?_
 refine AWP.seq ?_
 refine ns ?_
 refine nw ?_
 refine Zp hF (fun Zjt hF => ?_) (fun Zjt hF => ?_)
 ·refine nw ?_
  refine AWP.seq ?_
  refine AWP.block ?_
  refine AWP.seq ?_
  obtain ⟨y40, hy400, ZrK, hF⟩ := Zc5 hF
  obtain ⟨c42, Zk8, hF⟩ := bind_some hF
  refine AWP.cutN (fun T => ∃ r, WS r T ⟨[(0, .c none (.v (.string s))), (3, .c none (.v (.int .i64 ((i_3 : Nat) : Int)))), (30, .c none (.v (.bool c42)))], []⟩) ?_ (fun T hw => ?_)
  ·refine nn ?_
   refine sr ZrK ?_
   refine st ?_
   refine Zh false (fun Zc0 => ?_) (fun Zc0 => ?_)
   ·have Zk8 := ift Zc0 Zk8
    (conv => whnf)
    obtain rfl := Zg Zk8
    refine st ?_
    exact wx (WS.mk (tc (tc (Za (Zy (web Zc0)) Zd))) Zc)
   ·have Zk8 := ife Zc0 Zk8
    obtain ⟨y41, hy410, ZqP, Zk8⟩ := Zc5 Zk8
    (conv => whnf)
    refine sr ZqP ?_
    obtain rfl := Zg Zk8
    refine st ?_
    exact wx (WS.mk (tc (tc (Za (Zy (web Zc0)) Zd))) Zc)
  obtain ⟨r0, hw⟩ := hw
  (conv => whnf)
  refine AWP.weak r0 hw ?_
  refine nw ?_
  refine Zp hF (fun Zjo hF => ?_) (fun Zjo hF => ?_)
  ·refine AWP.seq ?_
   refine ns ?_
   obtain rfl := Zg hF
   refine ns ?_
   refine Exists.intro [] ?_
   refine st ?_
   exact wx (WS.mk (tc Zd) Zc)
  ·refine nw ?_
   obtain ⟨Zrt, hF⟩ := ZH hF
   refine ns ?_
   refine AWL.weak (rn []) ?_ (Zeg s (i_3 + 1) _ hF)
   exact (WS.mk (tc (Za (Zy (Zd2 (ZiU Zrt))) Zd)) Zc)
 ·refine nw ?_
  refine AWP.seq ?_
  obtain ⟨y46, hy460, Zr4, hF⟩ := Zc5 hF
  obtain ⟨c48, Zfb, hF⟩ := bind_some hF
  obtain ⟨c50, Zhr, hF⟩ := bind_some hF
  obtain ⟨c52, ZdC, hF⟩ := bind_some hF
  obtain ⟨c54, ZcA, hF⟩ := bind_some hF
  refine AWP.cutN (fun T => ∃ r, WS r T ⟨[(2, .c none (.v (.bool c54)))], []⟩) ?_ (fun T hw => ?_)
  ·refine nn ?_
   refine sr Zr4 ?_
   refine st ?_
   refine Zh true (fun Zdo => ?_) (fun Zdo => ?_)
   ·have Zfb := ift Zdo Zfb
    obtain ⟨y47, hy470, Zrr, Zfb⟩ := Zc5 Zfb
    (conv => whnf)
    refine sr Zrr ?_
    obtain rfl := Zg Zfb
    refine st ?_
    refine Zh false (fun ZgB => ?_) (fun ZgB => ?_)
    ·have Zhr := ift (And.intro Zdo ZgB) Zhr
     (conv => whnf)
     obtain rfl := Zg Zhr
     have ZdC := ift (And.intro Zdo ZgB) ZdC
     obtain rfl := Zg ZdC
     have ZcA := ift (And.intro Zdo ZgB) ZcA
     obtain rfl := Zg ZcA
     refine st ?_
     exact wx (WS.mk (Za (Zy (web (And.intro Zdo ZgB))) Zd) Zc)
    ·have Zhr := ife (And.intro Zdo ZgB) Zhr
     obtain ⟨y49, ZqJ, ZpT, Zhr⟩ := Zc5 Zhr
     (conv => whnf)
     refine sr ZpT ?_
     obtain rfl := Zg Zhr
     refine st ?_
     refine Zh false (fun Zj4 => ?_) (fun Zj4 => ?_)
     ·have ZdC := ift (And.intro Zdo (And.intro ZgB Zj4)) ZdC
      (conv => whnf)
      obtain rfl := Zg ZdC
      have ZcA := ift (And.intro Zdo (And.intro ZgB Zj4)) ZcA
      obtain rfl := Zg ZcA
      refine st ?_
      exact wx (WS.mk (Za (Zy (web (And.intro Zdo (And.intro ZgB Zj4)))) Zd) Zc)
     ·have ZdC := ife (And.intro Zdo (And.intro ZgB Zj4)) ZdC
      obtain ⟨y51, Zqw, ZpX, ZdC⟩ := Zc5 ZdC
      (conv => whnf)
      refine sr ZpX ?_
      obtain rfl := Zg ZdC
      refine st ?_
      refine Zh false (fun Zl5 => ?_) (fun Zl5 => ?_)
      ·have ZcA := ift (And.intro Zdo (And.intro ZgB (And.intro Zj4 Zl5))) ZcA
       (conv => whnf)
       obtain rfl := Zg ZcA
       refine st ?_
       exact wx (WS.mk (Za (Zy (web (And.intro Zdo (And.intro ZgB (And.intro Zj4 Zl5))))) Zd) Zc)
      ·have ZcA := ife (And.intro Zdo (And.intro ZgB (And.intro Zj4 Zl5))) ZcA
       obtain ⟨y53, Zqt, Zpm, ZcA⟩ := Zc5 ZcA
       (conv => whnf)
       refine sr Zpm ?_
       obtain rfl := Zg ZcA
       refine st ?_
       exact wx (WS.mk (Za (Zy (web (And.intro Zdo (And.intro ZgB (And.intro Zj4 Zl5))))) Zd) Zc)
   ·have Zfb := ife Zdo Zfb
    (conv => whnf)
    obtain rfl := Zg Zfb
    have Zhr := ife Zdo Zhr
    obtain ⟨y49, ZqJ, ZpT, Zhr⟩ := Zc5 Zhr
    refine sr ZpT ?_
    obtain rfl := Zg Zhr
    refine st ?_
    refine Zh false (fun Zj8 => ?_) (fun Zj8 => ?_)
    ·have ZdC := ift (And.intro Zdo Zj8) ZdC
     (conv => whnf)
     obtain rfl := Zg ZdC
     have ZcA := ift (And.intro Zdo Zj8) ZcA
     obtain rfl := Zg ZcA
     refine st ?_
     exact wx (WS.mk (Za (Zy (web (And.intro Zdo Zj8))) Zd) Zc)
    ·have ZdC := ife (And.intro Zdo Zj8) ZdC
     obtain ⟨y51, Zqw, ZpX, ZdC⟩ := Zc5 ZdC
     (conv => whnf)
     refine sr ZpX ?_
     obtain rfl := Zg ZdC
     refine st ?_
     refine Zh false (fun Zfc => ?_) (fun Zfc => ?_)
     ·have ZcA := ift (And.intro Zdo (And.intro Zj8 Zfc)) ZcA
      (conv => whnf)
      obtain rfl := Zg ZcA
      refine st ?_
      exact wx (WS.mk (Za (Zy (web (And.intro Zdo (And.intro Zj8 Zfc)))) Zd) Zc)
     ·have ZcA := ife (And.intro Zdo (And.intro Zj8 Zfc)) ZcA
      obtain ⟨y53, Zqt, Zpm, ZcA⟩ := Zc5 ZcA
      (conv => whnf)
      refine sr Zpm ?_
      obtain rfl := Zg ZcA
      refine st ?_
      exact wx (WS.mk (Za (Zy (web (And.intro Zdo (And.intro Zj8 Zfc)))) Zd) Zc)
  obtain ⟨r0, hw⟩ := hw
  (conv => whnf)
  refine AWP.weak r0 hw ?_
  obtain rfl := Zg hF
  refine ns ?_
  refine Exists.intro [] ?_
  refine st ?_
  exact wx (WS.mk (tc Zd) Zc)

def ZS (s : ByteArray) : Option (Bool) :=
 if (((s.toList == (ByteArray.mk #[]).toList) || (s.toList == (ByteArray.mk #[40]).toList)) || (decide (((s.size : Nat) : Int) > 129))) = true then
 some false
 else
 Zv s 0
def ZS.M (s : ByteArray) (r : Bool) : Prop :=
 Zj Tryd.prog 58 [.c none (.v (.string s))] [] (fun d b => d = .c none (.v (.bool r)) ∧ b = [])
theorem ZcS (s : ByteArray) (r : Bool) (hF : ZS s = some r) : ZS.M s r := by
 unfold ZS at hF
 unfold ZS.M
 refine en Tryd.func58 ?_
 refine AWP.seq ?_
 refine ns ?_
 refine AWP.seq ?_
 refine AWP.seq ?_
 refine AWP.cutN (fun T => ∃ r, WS r T ⟨[(0, .c none (.v (.string s))), (14, .c none (.v (.bool (((s.toList == (ByteArray.mk #[]).toList) || (s.toList == (ByteArray.mk #[40]).toList)) || (decide (((s.size : Nat) : Int) > 129))))))], []⟩) ?_ (fun T hw => ?_)
 ·refine ns ?_
  refine Zh false (fun hc2 => ?_) (fun hc2 => ?_)
  ·(conv => whnf)
   refine st ?_
   exact wx (WS.mk (tc (Za (Zy (web hc2)) Zd)) Zc)
  ·(conv => whnf)
   refine st ?_
   refine Zh false (fun hc3 => ?_) (fun hc3 => ?_)
   ·(conv => whnf)
    refine st ?_
    exact wx (WS.mk (tc (Za (Zy (web (And.intro hc2 hc3))) Zd)) Zc)
   ·(conv => whnf)
    refine st ?_
    exact wx (WS.mk (tc (Za (Zy (web (And.intro hc2 hc3))) Zd)) Zc)
 obtain ⟨r0, hw⟩ := hw
 (conv => whnf)
 refine AWP.weak r0 hw ?_
 refine nw ?_
 refine Zp hF (fun hc4 hF => ?_) (fun hc4 hF => ?_)
 ·refine AWP.seq ?_
  refine ns ?_
  obtain rfl := Zg hF
  refine ns ?_
  refine Exists.intro [] ?_
  refine st ?_
  exact wx (WS.mk (tc Zd) Zc)
 ·refine nw ?_
  refine AWP.seq ?_
  refine AWP.seq ?_
  refine ns ?_
  refine AWP.block ?_
  refine AWP.loop ?_
  refine AWL.weak (rn []) ?_ (Zef s 0 _ hF)
  exact (WS.mk (tc (tc Zd)) Zc)

def Zbi (s : Zf) : Option (Bool) :=
 some ((!s.fAll) && (((s.fList.length : Nat) : Int) == 0))
def Zbi.M (s : Zf) (r : Bool) : Prop :=
 Zj Tryd.prog 56 [.agg [.v (.bool s.fAll), .sl (s.fList.map Ze.cells)]] [] (fun d b => d = .c none (.v (.bool r)) ∧ b = [])
theorem Zch (s : Zf) (r : Bool) (hF : Zbi s = some r) : Zbi.M s r := by
 unfold Zbi at hF
 unfold Zbi.M
 refine en Tryd.func56 ?_
 refine AWP.seq ?_
 refine ns ?_
 refine AWP.seq ?_
 refine AWP.cutN (fun T => ∃ r, WS r T ⟨[(2, .c none (.v (.bool ((!s.fAll) && (((s.fList.length : Nat) : Int) == 0)))))], []⟩) ?_ (fun T hw => ?_)
 ·refine ns ?_
  refine Zh true (fun hc2 => ?_) (fun hc2 => ?_)
  ·(conv => whnf)
   refine st ?_
   intro hlen1
   (try rw [List.length_map] at hlen1)
   (try rw [List.length_map])
   refine st ?_
   exact wx (WS.mk (Za (Zy (web hc2)) Zd) Zc)
  ·(conv => whnf)
   refine st ?_
   exact wx (WS.mk (Za (Zy (web hc2)) Zd) Zc)
 obtain ⟨r0, hw⟩ := hw
 (conv => whnf)
 refine AWP.weak r0 hw ?_
 obtain rfl := Zg hF
 refine ns ?_
 refine Exists.intro [] ?_
 refine st ?_
 exact wx (WS.mk (tc Zd) Zc)

def Zbr (a : Ze) (b : Ze) : Option (Int) :=
 strings_Compare a.fCon b.fCon >>= fun r3 =>
 if (r3 != 0) = true then
 some r3
 else
 if (decide (a.fN < b.fN)) = true then
 some (-1)
 else
 if (decide (a.fN > b.fN)) = true then
 some 1
 else
 some 0
def Zbr.M (a : Ze) (b : Ze) (r : Int) : Prop :=
 Zj Tryd.prog 65 [.agg [.v (.string a.fCon), .v (.int .i64 a.fN)], .agg [.v (.string b.fCon), .v (.int .i64 b.fN)]] [] (fun d b => d = .c none (.v (.int .i64 r)) ∧ b = [])
theorem ZgS (a : Ze) (b : Ze) (r : Int) (hF : Zbr a b = some r) : Zbr.M a b r := by
 unfold Zbr at hF
 unfold Zbr.M
 refine en Tryd.func65 ?_
 refine AWP.seq ?_
 refine ns ?_
 refine AWP.seq ?_
 refine AWP.seq ?_
 obtain ⟨r3, hr3, hF⟩ := bind_some hF
 refine ns ?_
 refine e3 ?_
 refine st ?_
 refine cm (Zj.weak (rn []) (Zgi a.fCon b.fCon _ hr3) rfl (WS.mk (tc (tc Zd)) Zc)) ?_
 refine st ?_
 refine AWP.seq ?_
 refine ns ?_
 refine nw ?_
 refine Zp hF (fun hc4 hF => ?_) (fun hc4 hF => ?_)
 ·refine AWP.seq ?_
  refine ns ?_
  obtain rfl := Zg hF
  refine ns ?_
  refine Exists.intro [] ?_
  refine st ?_
  exact wx (WS.mk (tc Zd) Zc)
 ·refine nw ?_
  refine AWP.seq ?_
  refine AWP.seq ?_
  refine ns ?_
  refine nw ?_
  refine Zp hF (fun hc6 hF => ?_) (fun hc6 hF => ?_)
  ·refine AWP.seq ?_
   refine ns ?_
   obtain rfl := Zg hF
   refine ns ?_
   refine Exists.intro [] ?_
   refine st ?_
   exact wx (WS.mk (tc Zd) Zc)
  ·refine nw ?_
   refine AWP.seq ?_
   refine AWP.seq ?_
   refine ns ?_
   refine nw ?_
   refine Zp hF (fun hc7 hF => ?_) (fun hc7 hF => ?_)
   ·refine AWP.seq ?_
    refine ns ?_
    obtain rfl := Zg hF
    refine ns ?_
    refine Exists.intro [] ?_
    refine st ?_
    exact wx (WS.mk (tc Zd) Zc)
   ·refine nw ?_
    refine AWP.seq ?_
    refine ns ?_
    obtain rfl := Zg hF
    refine ns ?_
    refine Exists.intro [] ?_
    refine st ?_
    exact wx (WS.mk (tc Zd) Zc)

def Zan (s : Zf) (Zcc : Nat) (Zay : (List Ze)) : Option (Bool) :=
 (match Zay with
 | x25 :: ZlN =>
 ZS x25.fCon >>= fun r28 =>
 (if (!r28) = true then some true else (if (decide (((Zcc : Nat) : Int) > 0)) = true then (ixI s.fList (IntKind.i64.wrap (((Zcc : Nat) : Int) - 1))) >>= fun x29 =>
 Zbr x29 x25 >>= fun r30 =>
 some (decide (r30 ≥ 0)) else some false) >>= fun c31 =>
 some c31) >>= fun c32 =>
 if c32 = true then
 some false
 else
 Zan s (Zcc + 1) ZlN
 | [] =>
 some true)
 partial_fixpoint
def Zan.M (s : Zf) (Zcc : Nat) (Zay : (List Ze)) (r : Bool) : Prop :=
 ∀ ZcF : List Ze, s.fList = ZcF ++ Zay → Zcc = ZcF.length → s.fList.length ≤ maxLen → AWL Tryd.prog 43 (Code.sub (ZF Tryd.f57) [1, 1, 1, 0, 1, 0, 0]) (Code.cont Tryd.prog 43 (ZF Tryd.f57) [1, 1, 1, 0, 1, 0] (ZcP tab Tryd.f57.results (Zde (.c none (.v (.bool r))) []))) ⟨[(1, .ptr 1 0), (16, .c none (.sl (s.fList.map Ze.cells))), (17, .c none (.v (.int .i64 ((s.fList.length : Nat) : Int)))), (18, .c none (.v (.int .i64 ((Zcc : Nat) : Int))))], [(1, [(none, .v (.bool s.fAll)), (none, .sl (s.fList.map Ze.cells))])]⟩
theorem Ze9 (s : Zf) (Zcc : Nat) (Zay : (List Ze)) : ∀ r, Zan s Zcc Zay = some r → Zan.M s Zcc Zay r := by
 refine Zan.partial_correctness s (fun Zcc Zay r => Zan.M s Zcc Zay r) ?_ Zcc Zay
 intro values_validSet_l1' ZcG Zcc Zay r hF
 have Zfd := fun (_s : Zf) (Zcc : Nat) (Zay : (List Ze)) => ZcG Zcc Zay
 clear ZcG
 unfold Zan.M
 intro ZcF ZgH ZgN hlen9
 refine AWL.step ?_
 refine AWP.seq ?_
 refine ns ?_
 refine AWP.seq ?_
 refine nw ?_
 refine Z6 ZgH ZgN (fun x25 ZlN ZlB Zp3 ZpK => ?_) (fun ZlB => ?_)
 ·subst ZlB
  refine nw ?_
  refine AWP.seq ?_
  refine AWP.block ?_
  refine AWP.seq ?_
  refine nn ?_
  refine sr (ZaD (f := Ze.cells) (Ze.cells_eq x25) Zp3) ?_
  refine st ?_
  refine AWP.seq ?_
  obtain ⟨r28, Zpy, hF⟩ := bind_some hF
  obtain ⟨c32, ZbR, hF⟩ := bind_some hF
  refine AWP.cutN (fun T => ∃ r, WS r T ⟨[(1, .ptr 1 0), (16, .c none (.sl (s.fList.map Ze.cells))), (17, .c none (.v (.int .i64 ((s.fList.length : Nat) : Int)))), (18, .c none (.v (.int .i64 ((Zcc : Nat) : Int)))), (41, .c none (.v (.bool c32)))], [(1, [(none, .v (.bool s.fAll)), (none, .sl (s.fList.map Ze.cells))])]⟩) ?_ (fun T hw => ?_)
  ·refine nn ?_
   refine Or.inl (Exists.intro 15 (Exists.intro [[], [], [], [], [], [], [], [], [], [], [], [], [], [], []] (Exists.intro [([23, 24, 25, 26, 27, 28, 29, 30, 31, 32, 33, 34, 35, 36, 37], [], []), ([24, 25, 26, 27, 28, 29, 30, 31, 32, 33, 34, 35, 36, 37], [], []), ([25, 26, 27, 28, 29, 30, 31, 32, 33, 34, 35, 36, 37], [], []), ([26, 27, 28, 29, 30, 31, 32, 33, 34, 35, 36, 37], [], []), ([27, 28, 29, 30, 31, 32, 33, 34, 35, 36, 37], [], []), ([28, 29, 30, 31, 32, 33, 34, 35, 36, 37], [], []), ([29, 30, 31, 32, 33, 34, 35, 36, 37], [], []), ([30, 31, 32, 33, 34, 35, 36, 37], [], []), ([31, 32, 33, 34, 35, 36, 37], [], []), ([32, 33, 34, 35, 36, 37], [], []), ([31, 32, 33, 34, 35, 36, 37], [], []), ([31, 32, 34, 35, 36, 37], [], []), ([35, 36, 37], [], []), ([36, 37], [], []), ([31, 32, 33, 34, 35, 36, 37], [], [])] (Exists.intro [23, 24, 25, 26, 27, 28, 29, 30, 31, 32, 33, 34, 35, 36, 37] (And.intro (by decide +kernel) ?_)))))
   refine dp ?_
   refine dp ?_
   (refine st ?_; apply Exists.intro; apply Exists.intro; apply And.intro; (focus ((conv => whnf); refine Exists.intro [] ?_; (conv => whnf); refine And.intro rfl ?_; (conv => whnf); refine Zj.mono (Zj.weak (rn []) (ZcS x25.fCon _ Zpy) rfl (WS.mk (tc Zd) Zc)) ?_; rintro d b ⟨rfl, rfl⟩; exact And.intro rfl (And.intro rfl rfl))); apply And.intro; (focus exact rfl); (conv => whnf))
   refine dp ?_
   refine dp ?_
   refine st ?_
   refine Zh false (fun Zcm => ?_) (fun Zcm => ?_)
   ·have ZbR := ift Zcm ZbR
    (conv => whnf)
    obtain rfl := Zg ZbR
    refine st ?_
    exact wx (WS.mk (tp (tc (tc (tc (Za (Zy (web Zcm)) Zd))))) (Zi rfl (cc (cc Zk)) Zc))
   ·have ZbR := ife Zcm ZbR
    obtain ⟨c31, ZdE, ZbR⟩ := bind_some ZbR
    (conv => whnf)
    refine dp ?_
    refine dp ?_
    refine dp ?_
    refine st ?_
    refine Zh true (fun ZfM => ?_) (fun ZfM => ?_)
    ·have ZdE := ift (And.intro Zcm ZfM) ZdE
     obtain ⟨x29, hx290, Zru, ZdE⟩ := Zki ZdE
     obtain ⟨r30, Zqq, ZdE⟩ := bind_some ZdE
     (conv => whnf)
     refine dp ?_
     refine dp ?_
     refine dp ?_
     refine dp ?_
     refine dr (Zja (Ze.cells_eq x29) Zru) ?_
     refine dp ?_
     refine dp ?_
     refine st ?_
     refine e3 ?_
     refine st ?_
     refine cm (Zj.weak (rn []) (ZgS x29 x25 _ Zqq) rfl (WS.mk (Za (Zo (lc (lc Zm))) (Za (Zo (lc (lc Zm))) Zd)) Zc)) ?_
     refine st ?_
     obtain rfl := Zg ZdE
     obtain rfl := Zg ZbR
     refine st ?_
     exact wx (WS.mk (tp (tc (tc (tc (Za (Zy (web (And.intro Zcm ZfM))) Zd))))) (Zi rfl (cc (cc Zk)) Zc))
    ·have ZdE := ife (And.intro Zcm ZfM) ZdE
     (conv => whnf)
     obtain rfl := Zg ZdE
     obtain rfl := Zg ZbR
     refine st ?_
     exact wx (WS.mk (tp (tc (tc (tc (Za (Zy (web (And.intro Zcm ZfM))) Zd))))) (Zi rfl (cc (cc Zk)) Zc))
  obtain ⟨r0, hw⟩ := hw
  (conv => whnf)
  refine AWP.weak r0 hw ?_
  refine nw ?_
  refine Zp hF (fun ZlH hF => ?_) (fun ZlH hF => ?_)
  ·refine AWP.seq ?_
   refine ns ?_
   obtain rfl := Zg hF
   refine ns ?_
   refine Exists.intro [] ?_
   refine st ?_
   exact wx (WS.mk (tc Zd) Zc)
  ·refine nw ?_
   refine ns ?_
   refine AWL.weak (rn []) ?_ (Zfd s (Zcc + 1) ZlN _ hF (ZcF ++ [x25]) (by rw [ZgH]; simp) (by rw [ZgN]; simp) hlen9)
   exact (WS.mk (tp (tc (tc (Za (Zy (Zd2 (Zau hlen9 ZpK))) Zd)))) (Zi rfl (cc (cc Zk)) Zc))
 ·subst ZlB
  refine nw ?_
  refine AWP.seq ?_
  refine ns ?_
  obtain rfl := Zg hF
  refine ns ?_
  refine Exists.intro [] ?_
  refine st ?_
  exact wx (WS.mk (tc Zd) Zc)

def Zbe (s : Zf) : Option (Bool) :=
 if s.fAll = true then
 some (((s.fList.length : Nat) : Int) == 0)
 else
 if (decide (((s.fList.length : Nat) : Int) > 16)) = true then
 some false
 else
 Zan s 0 s.fList
def Zbe.M (s : Zf) (r : Bool) : Prop :=
 Zj Tryd.prog 57 [.agg [.v (.bool s.fAll), .sl (s.fList.map Ze.cells)]] [] (fun d b => d = .c none (.v (.bool r)) ∧ b = [])
theorem Zgh (s : Zf) (r : Bool) (hF : Zbe s = some r) : Zbe.M s r := by
 unfold Zbe at hF
 unfold Zbe.M
 refine en Tryd.func57 ?_
 refine AWP.seq ?_
 refine ns ?_
 refine AWP.seq ?_
 refine AWP.seq ?_
 refine ns ?_
 refine nw ?_
 refine Zp hF (fun hc3 hF => ?_) (fun hc3 hF => ?_)
 ·refine AWP.seq ?_
  refine ns ?_
  intro hlen4
  (try rw [List.length_map] at hlen4)
  (try rw [List.length_map])
  refine st ?_
  obtain rfl := Zg hF
  refine ns ?_
  refine Exists.intro [] ?_
  refine st ?_
  exact wx (WS.mk (tc Zd) Zc)
 ·refine nw ?_
  refine AWP.seq ?_
  refine AWP.seq ?_
  refine ns ?_
  intro hlen7
  (try rw [List.length_map] at hlen7)
  (try rw [List.length_map])
  refine st ?_
  refine nw ?_
  refine Zp hF (fun hc8 hF => ?_) (fun hc8 hF => ?_)
  ·refine AWP.seq ?_
   refine ns ?_
   obtain rfl := Zg hF
   refine ns ?_
   refine Exists.intro [] ?_
   refine st ?_
   exact wx (WS.mk (tc Zd) Zc)
  ·refine nw ?_
   refine AWP.seq ?_
   refine AWP.seq ?_
   refine ns ?_
   intro hlen9
   (try rw [List.length_map] at hlen9)
   (try rw [List.length_map])
   refine st ?_
   refine AWP.block ?_
   refine AWP.loop ?_
   refine AWL.weak (rn []) ?_ (Ze9 s 0 s.fList _ hF ([]) rfl rfl hlen9)
   exact (WS.mk (tp (tc (tc (tc Zd)))) (Zi rfl (cc (cc Zk)) Zc))

mutual
def ZV (v : Zb) : Option (Bool) :=
 (if (((!(v.fOp == 3)) && ((!(v.fName.toList == (ByteArray.mk #[]).toList)) || (decide (((v.fKids.length : Nat) : Int) > 0)))) || ((!((v.fOp == 1) || (v.fOp == 2))) && (v.fN != 0))) = true then some true else (if (v.fOp != 5) = true then Zbi v.fSet >>= fun r8 =>
 some (!r8) else some false) >>= fun c9 =>
 some c9) >>= fun c10 =>
 if c10 = true then
 some false
 else
 if (v.fOp == 1) = true then
 ZP v (v.fOp == 1)
 else
 if (v.fOp == 4) = true then
 ZP v (v.fOp == 4)
 else
 ZP v (v.fOp == 6)
 partial_fixpoint
def ZP (v : Zb) (Zdp : Bool) : Option (Bool) :=
 if Zdp = true then
 some true
 else
 if (v.fOp == 2) = true then
 some ((decide (v.fN ≥ 0)) && (decide (v.fN ≤ 255)))
 else
 if (v.fOp == 5) = true then
 Zbe v.fSet >>= fun r29 =>
 some r29
 else
 if (v.fOp == 3) = true then
 ZO v 0 v.fKids
 else
 some false
 partial_fixpoint
def ZO (v : Zb) (ZhY : Nat) (Zc6 : (List Zb)) : Option (Bool) :=
 (match Zc6 with
 | x59 :: ZpQ =>
 ZV x59 >>= fun r62 =>
 if (!r62) = true then
 some false
 else
 ZO v (ZhY + 1) ZpQ
 | [] =>
 ZS v.fName >>= fun r64 =>
 some r64)
 partial_fixpoint
end
def ZV.M (v : Zb) (r : Bool) : Prop :=
 Zj Tryd.prog 43 [.agg [.v (.int .i64 v.fOp), .v (.string v.fName), .v (.int .i64 v.fN), .sl (v.fKids.map Zb.cells), .v (.bool v.fSet.fAll), .sl (v.fSet.fList.map Ze.cells)]] [] (fun d b => d = .c none (.v (.bool r)) ∧ b = [])
def ZP.M (v : Zb) (Zdp : Bool) (r : Bool) : Prop :=
 AWP Tryd.prog 88 (Code.sub (ZF Tryd.f43) [1, 1, 1, 0, 1, 0, 1]) (Code.cont Tryd.prog 88 (ZF Tryd.f43) [1, 1, 1, 0, 1, 0, 1] (ZcP tab Tryd.f43.results (Zde (.c none (.v (.bool r))) []))) ⟨[(1, .ptr 1 0), (52, .c none (.v (.int .i64 v.fOp))), (53, .c none (.v (.bool Zdp)))], [(1, [(none, .v (.int .i64 v.fOp)), (none, .v (.string v.fName)), (none, .v (.int .i64 v.fN)), (none, .sl (v.fKids.map Zb.cells)), (none, .v (.bool v.fSet.fAll)), (none, .sl (v.fSet.fList.map Ze.cells))])]⟩
def ZO.M (v : Zb) (ZhY : Nat) (Zc6 : (List Zb)) (r : Bool) : Prop :=
 ∀ Zg6 : List Zb, v.fKids = Zg6 ++ Zc6 → ZhY = Zg6.length → v.fKids.length ≤ maxLen → AWL Tryd.prog 88 (Code.sub (ZF Tryd.f43) [1, 1, 1, 0, 1, 0, 1, 1, 1, 1, 1, 1, 1, 0, 0, 1, 0, 0]) (Code.cont Tryd.prog 88 (ZF Tryd.f43) [1, 1, 1, 0, 1, 0, 1, 1, 1, 1, 1, 1, 1, 0, 0, 1, 0] (ZcP tab Tryd.f43.results (Zde (.c none (.v (.bool r))) []))) ⟨[(1, .ptr 1 0), (75, .c none (.sl (v.fKids.map Zb.cells))), (76, .c none (.v (.int .i64 ((v.fKids.length : Nat) : Int)))), (77, .c none (.v (.int .i64 ((ZhY : Nat) : Int))))], [(1, [(none, .v (.int .i64 v.fOp)), (none, .v (.string v.fName)), (none, .v (.int .i64 v.fN)), (none, .sl (v.fKids.map Zb.cells)), (none, .v (.bool v.fSet.fAll)), (none, .sl (v.fSet.fList.map Ze.cells))])]⟩
theorem ZcL : (∀ (v : Zb), ∀ r, ZV v = some r → ZV.M v r) ∧ (∀ (v : Zb) (Zdp : Bool), ∀ r, ZP v Zdp = some r → ZP.M v Zdp r) ∧ (∀ (v : Zb) (ZhY : Nat) (Zc6 : (List Zb)), ∀ r, ZO v ZhY Zc6 = some r → ZO.M v ZhY Zc6 r) := by
 refine ZV.mutual_partial_correctness ZV.M ZP.M ZO.M ?_ ?_ ?_
 ·intro values_formed_k1' Zb2 v r hF
  unfold ZV.M
  refine en Tryd.func43 ?_
  refine AWP.seq ?_
  refine ns ?_
  refine AWP.seq ?_
  refine AWP.cutN (fun T => ∃ r, WS r T ⟨[(1, .ptr 1 0), (3, .c none (.v (.bool (v.fOp == 3)))), (4, .c none (.v (.bool ((v.fOp == 1) || (v.fOp == 2)))))], [(1, [(none, .v (.int .i64 v.fOp)), (none, .v (.string v.fName)), (none, .v (.int .i64 v.fN)), (none, .sl (v.fKids.map Zb.cells)), (none, .v (.bool v.fSet.fAll)), (none, .sl (v.fSet.fList.map Ze.cells))])]⟩) ?_ (fun T hw => ?_)
  ·refine nn ?_
   refine Or.inr (Exists.intro [0, 1, 2, 3, 4, 5, 6, 11] (Exists.intro [[7, 8, 9, 10, 11, 12, 13, 3], [8, 9, 10, 11, 12, 13, 3], [9, 10, 11, 12, 13, 3], [7, 8, 9, 10, 11, 12, 13, 3], [7, 8, 9, 11, 12, 13, 3], [7, 8, 9, 12, 13, 3], [7, 8, 9, 13, 3], [3]] (Exists.intro [1] (Exists.intro [1, 3, 7, 8, 9, 10, 11, 12, 13] (Exists.intro [7, 8, 9, 10, 11, 12, 13, 3] (Exists.intro [7, 8, 9, 10, 12] (And.intro (by decide +kernel) ?_)))))))
   refine dp ?_
   refine dp ?_
   refine dp ?_
   refine dp ?_
   refine dp ?_
   refine dp ?_
   refine dp ?_
   refine dp ?_
   refine st ?_
   refine Zh false (fun hc1 => ?_) (fun hc1 => ?_)
   ·(conv => whnf)
    (try rw [hc1])
    refine st ?_
    exact wx (WS.mk (tp (tc (Za (Zy (web hc1)) Zd))) (Zi rfl (cc (cc (cc (cc (cc (cc Zk)))))) Zc))
   ·(conv => whnf)
    (try rw [hc1])
    refine st ?_
    exact wx (WS.mk (tp (tc (Za (Zy (web hc1)) Zd))) (Zi rfl (cc (cc (cc (cc (cc (cc Zk)))))) Zc))
  obtain ⟨r0, hw⟩ := hw
  (conv => whnf)
  refine AWP.weak r0 hw ?_
  refine AWP.seq ?_
  refine AWP.seq ?_
  obtain ⟨c10, ZaK, hF⟩ := bind_some hF
  refine AWP.cutN (fun T => ∃ r, WS r T ⟨[(1, .ptr 1 0), (50, .c none (.v (.bool c10)))], [(1, [(none, .v (.int .i64 v.fOp)), (none, .v (.string v.fName)), (none, .v (.int .i64 v.fN)), (none, .sl (v.fKids.map Zb.cells)), (none, .v (.bool v.fSet.fAll)), (none, .sl (v.fSet.fList.map Ze.cells))])]⟩) ?_ (fun T hw => ?_)
  ·refine ns ?_
   refine Zh true (fun ZcE => ?_) (fun ZcE => ?_)
   ·(conv => whnf)
    refine st ?_
    refine Zh false (fun Zcl => ?_) (fun Zcl => ?_)
    ·(conv => whnf)
     have ZaK := ift (And.intro ZcE Zcl) ZaK
     obtain rfl := Zg ZaK
     refine st ?_
     exact wx (WS.mk (tp (Za (Zy (web (And.intro ZcE Zcl))) Zd)) (Zi rfl (cc (cc (cc (cc (cc (cc Zk)))))) Zc))
    ·(conv => whnf)
     refine st ?_
     intro hlen7
     (try rw [List.length_map] at hlen7)
     (try rw [List.length_map])
     refine st ?_
     refine Zh false (fun Zdq => ?_) (fun Zdq => ?_)
     ·(conv => whnf)
      have ZaK := ift (And.intro ZcE (And.intro Zcl Zdq)) ZaK
      obtain rfl := Zg ZaK
      refine st ?_
      exact wx (WS.mk (tp (Za (Zy (web (And.intro ZcE (And.intro Zcl Zdq)))) Zd)) (Zi rfl (cc (cc (cc (cc (cc (cc Zk)))))) Zc))
     ·(conv => whnf)
      refine st ?_
      refine Zh true (fun ZcO => ?_) (fun ZcO => ?_)
      ·(conv => whnf)
       refine st ?_
       refine Zh false (fun ZfX => ?_) (fun ZfX => ?_)
       ·have ZaK := ift (And.intro ZcE (And.intro Zcl (And.intro Zdq (And.intro ZcO ZfX)))) ZaK
        (conv => whnf)
        obtain rfl := Zg ZaK
        refine st ?_
        exact wx (WS.mk (tp (Za (Zy (web (And.intro ZcE (And.intro Zcl (And.intro Zdq (And.intro ZcO ZfX)))))) Zd)) (Zi rfl (cc (cc (cc (cc (cc (cc Zk)))))) Zc))
       ·have ZaK := ife (And.intro ZcE (And.intro Zcl (And.intro Zdq (And.intro ZcO ZfX)))) ZaK
        obtain ⟨c9, hc9, ZaK⟩ := bind_some ZaK
        (conv => whnf)
        refine st ?_
        refine Zh true (fun Zj2 => ?_) (fun Zj2 => ?_)
        ·have hc9 := ift (And.intro ZcE (And.intro Zcl (And.intro Zdq (And.intro ZcO (And.intro ZfX Zj2))))) hc9
         obtain ⟨r8, hr8, hc9⟩ := bind_some hc9
         (conv => whnf)
         refine st ?_
         refine e3 ?_
         refine st ?_
         refine cm (Zj.weak (rn []) (Zch v.fSet _ hr8) rfl (WS.mk (Za (Zo (lc (lc Zm))) Zd) Zc)) ?_
         refine st ?_
         obtain rfl := Zg hc9
         obtain rfl := Zg ZaK
         refine st ?_
         exact wx (WS.mk (tp (Za (Zy (web (And.intro ZcE (And.intro Zcl (And.intro Zdq (And.intro ZcO (And.intro ZfX Zj2))))))) Zd)) (Zi rfl (cc (cc (cc (cc (cc (cc Zk)))))) Zc))
        ·have hc9 := ife (And.intro ZcE (And.intro Zcl (And.intro Zdq (And.intro ZcO (And.intro ZfX Zj2))))) hc9
         (conv => whnf)
         obtain rfl := Zg hc9
         obtain rfl := Zg ZaK
         refine st ?_
         exact wx (WS.mk (tp (Za (Zy (web (And.intro ZcE (And.intro Zcl (And.intro Zdq (And.intro ZcO (And.intro ZfX Zj2))))))) Zd)) (Zi rfl (cc (cc (cc (cc (cc (cc Zk)))))) Zc))
      ·(conv => whnf)
       have ZaK := ife (And.intro ZcE (And.intro Zcl (And.intro Zdq ZcO))) ZaK
       obtain ⟨c9, hc9, ZaK⟩ := bind_some ZaK
       refine st ?_
       refine Zh true (fun ZoB => ?_) (fun ZoB => ?_)
       ·have hc9 := ift (And.intro ZcE (And.intro Zcl (And.intro Zdq (And.intro ZcO ZoB)))) hc9
        obtain ⟨r8, hr8, hc9⟩ := bind_some hc9
        (conv => whnf)
        refine st ?_
        refine e3 ?_
        refine st ?_
        refine cm (Zj.weak (rn []) (Zch v.fSet _ hr8) rfl (WS.mk (Za (Zo (lc (lc Zm))) Zd) Zc)) ?_
        refine st ?_
        obtain rfl := Zg hc9
        obtain rfl := Zg ZaK
        refine st ?_
        exact wx (WS.mk (tp (Za (Zy (web (And.intro ZcE (And.intro Zcl (And.intro Zdq (And.intro ZcO ZoB)))))) Zd)) (Zi rfl (cc (cc (cc (cc (cc (cc Zk)))))) Zc))
       ·have hc9 := ife (And.intro ZcE (And.intro Zcl (And.intro Zdq (And.intro ZcO ZoB)))) hc9
        (conv => whnf)
        obtain rfl := Zg hc9
        obtain rfl := Zg ZaK
        refine st ?_
        exact wx (WS.mk (tp (Za (Zy (web (And.intro ZcE (And.intro Zcl (And.intro Zdq (And.intro ZcO ZoB)))))) Zd)) (Zi rfl (cc (cc (cc (cc (cc (cc Zk)))))) Zc))
   ·(conv => whnf)
    refine st ?_
    refine Zh true (fun Zda => ?_) (fun Zda => ?_)
    ·(conv => whnf)
     refine st ?_
     refine Zh false (fun Zlf => ?_) (fun Zlf => ?_)
     ·have ZaK := ift (And.intro ZcE (And.intro Zda Zlf)) ZaK
      (conv => whnf)
      obtain rfl := Zg ZaK
      refine st ?_
      exact wx (WS.mk (tp (Za (Zy (web (And.intro ZcE (And.intro Zda Zlf)))) Zd)) (Zi rfl (cc (cc (cc (cc (cc (cc Zk)))))) Zc))
     ·have ZaK := ife (And.intro ZcE (And.intro Zda Zlf)) ZaK
      obtain ⟨c9, hc9, ZaK⟩ := bind_some ZaK
      (conv => whnf)
      refine st ?_
      refine Zh true (fun Zl8 => ?_) (fun Zl8 => ?_)
      ·have hc9 := ift (And.intro ZcE (And.intro Zda (And.intro Zlf Zl8))) hc9
       obtain ⟨r8, hr8, hc9⟩ := bind_some hc9
       (conv => whnf)
       refine st ?_
       refine e3 ?_
       refine st ?_
       refine cm (Zj.weak (rn []) (Zch v.fSet _ hr8) rfl (WS.mk (Za (Zo (lc (lc Zm))) Zd) Zc)) ?_
       refine st ?_
       obtain rfl := Zg hc9
       obtain rfl := Zg ZaK
       refine st ?_
       exact wx (WS.mk (tp (Za (Zy (web (And.intro ZcE (And.intro Zda (And.intro Zlf Zl8))))) Zd)) (Zi rfl (cc (cc (cc (cc (cc (cc Zk)))))) Zc))
      ·have hc9 := ife (And.intro ZcE (And.intro Zda (And.intro Zlf Zl8))) hc9
       (conv => whnf)
       obtain rfl := Zg hc9
       obtain rfl := Zg ZaK
       refine st ?_
       exact wx (WS.mk (tp (Za (Zy (web (And.intro ZcE (And.intro Zda (And.intro Zlf Zl8))))) Zd)) (Zi rfl (cc (cc (cc (cc (cc (cc Zk)))))) Zc))
    ·(conv => whnf)
     have ZaK := ife (And.intro ZcE Zda) ZaK
     obtain ⟨c9, hc9, ZaK⟩ := bind_some ZaK
     refine st ?_
     refine Zh true (fun ZlP => ?_) (fun ZlP => ?_)
     ·have hc9 := ift (And.intro ZcE (And.intro Zda ZlP)) hc9
      obtain ⟨r8, hr8, hc9⟩ := bind_some hc9
      (conv => whnf)
      refine st ?_
      refine e3 ?_
      refine st ?_
      refine cm (Zj.weak (rn []) (Zch v.fSet _ hr8) rfl (WS.mk (Za (Zo (lc (lc Zm))) Zd) Zc)) ?_
      refine st ?_
      obtain rfl := Zg hc9
      obtain rfl := Zg ZaK
      refine st ?_
      exact wx (WS.mk (tp (Za (Zy (web (And.intro ZcE (And.intro Zda ZlP)))) Zd)) (Zi rfl (cc (cc (cc (cc (cc (cc Zk)))))) Zc))
     ·have hc9 := ife (And.intro ZcE (And.intro Zda ZlP)) hc9
      (conv => whnf)
      obtain rfl := Zg hc9
      obtain rfl := Zg ZaK
      refine st ?_
      exact wx (WS.mk (tp (Za (Zy (web (And.intro ZcE (And.intro Zda ZlP)))) Zd)) (Zi rfl (cc (cc (cc (cc (cc (cc Zk)))))) Zc))
  obtain ⟨r0, hw⟩ := hw
  (conv => whnf)
  refine AWP.weak r0 hw ?_
  refine nw ?_
  refine Zp hF (fun Zft hF => ?_) (fun Zft hF => ?_)
  ·refine AWP.seq ?_
   refine ns ?_
   obtain rfl := Zg hF
   refine ns ?_
   refine Exists.intro [] ?_
   refine st ?_
   exact wx (WS.mk (tc Zd) Zc)
  ·refine nw ?_
   refine AWP.seq ?_
   refine AWP.seq ?_
   refine ns ?_
   refine AWP.block ?_
   refine AWP.seq ?_
   refine AWP.seq ?_
   refine ns ?_
   refine nw ?_
   refine Zp hF (fun Zpp hF => ?_) (fun Zpp hF => ?_)
   ·refine nw ?_
    refine AWP.weak (rn []) ?_ (Zb2 v (v.fOp == 1) _ hF)
    exact (WS.mk (tp (tc (tc Zd))) (Zi rfl (cc (cc (cc (cc (cc (cc Zk)))))) Zc))
   ·refine AWP.seq ?_
    refine ns ?_
    refine nw ?_
    refine Zp hF (fun ZrH hF => ?_) (fun ZrH hF => ?_)
    ·refine nw ?_
     refine AWP.weak (rn []) ?_ (Zb2 v (v.fOp == 4) _ hF)
     exact (WS.mk (tp (tc (tc Zd))) (Zi rfl (cc (cc (cc (cc (cc (cc Zk)))))) Zc))
    ·refine ns ?_
     refine AWP.weak (rn []) ?_ (Zb2 v (v.fOp == 6) _ hF)
     exact (WS.mk (tp (tc (tc Zd))) (Zi rfl (cc (cc (cc (cc (cc (cc Zk)))))) Zc))
 ·intro values_formed_l2' Zb4 v Zdp r hF
  unfold ZP.M
  refine nw ?_
  refine Zp hF (fun ZrS hF => ?_) (fun ZrS hF => ?_)
  ·refine AWP.seq ?_
   refine ns ?_
   obtain rfl := Zg hF
   refine ns ?_
   refine Exists.intro [] ?_
   refine st ?_
   exact wx (WS.mk (tc Zd) Zc)
  ·refine AWP.seq ?_
   refine ns ?_
   refine nw ?_
   refine Zp hF (fun Zqj hF => ?_) (fun Zqj hF => ?_)
   ·refine AWP.seq ?_
    refine AWP.cutN (fun T => ∃ r, WS r T ⟨[(2, .c none (.v (.bool ((decide (v.fN ≥ 0)) && (decide (v.fN ≤ 255))))))], []⟩) ?_ (fun T hw => ?_)
    ·refine ns ?_
     refine Zh true (fun Zgr => ?_) (fun Zgr => ?_)
     ·(conv => whnf)
      refine st ?_
      exact wx (WS.mk (Za (Zy (web Zgr)) Zd) Zc)
     ·(conv => whnf)
      refine st ?_
      exact wx (WS.mk (Za (Zy (web Zgr)) Zd) Zc)
    obtain ⟨r0, hw⟩ := hw
    (conv => whnf)
    refine AWP.weak r0 hw ?_
    obtain rfl := Zg hF
    refine ns ?_
    refine Exists.intro [] ?_
    refine st ?_
    exact wx (WS.mk (tc Zd) Zc)
   ·refine AWP.seq ?_
    refine ns ?_
    refine nw ?_
    refine Zp hF (fun Zjp hF => ?_) (fun Zjp hF => ?_)
    ·refine AWP.seq ?_
     obtain ⟨r29, Zl2, hF⟩ := bind_some hF
     refine ns ?_
     refine e3 ?_
     refine st ?_
     refine cm (Zj.weak (rn []) (Zgh v.fSet _ Zl2) rfl (WS.mk (Za (Zo (lc (lc Zm))) Zd) Zc)) ?_
     refine st ?_
     obtain rfl := Zg hF
     refine ns ?_
     refine Exists.intro [] ?_
     refine st ?_
     exact wx (WS.mk (tc Zd) Zc)
    ·refine AWP.seq ?_
     refine ns ?_
     refine nw ?_
     refine Zp hF (fun ZfD hF => ?_) (fun ZfD hF => ?_)
     ·refine AWP.seq ?_
      refine AWP.seq ?_
      refine ns ?_
      intro hlen47
      (try rw [List.length_map] at hlen47)
      (try rw [List.length_map])
      refine st ?_
      refine AWP.block ?_
      refine AWP.loop ?_
      refine AWL.weak (rn []) ?_ (Zb4 v 0 v.fKids _ hF ([]) rfl rfl hlen47)
      exact (WS.mk (tp (tc (tc (tc Zd)))) (Zi rfl (cc (cc (cc (cc (cc (cc Zk)))))) Zc))
     ·refine nw ?_
      refine AWP.seq ?_
      refine ns ?_
      obtain rfl := Zg hF
      refine ns ?_
      refine Exists.intro [] ?_
      refine st ?_
      exact wx (WS.mk (tc Zd) Zc)
 ·intro values_formed' values_formed_l2' Zha Zb4 v ZhY Zc6 r hF
  unfold ZO.M
  intro Zg6 Zmr Zmc hlen47
  refine AWL.step ?_
  refine AWP.seq ?_
  refine ns ?_
  refine AWP.seq ?_
  refine nw ?_
  refine Z6 Zmr Zmc (fun x59 ZpQ ZpW ZqX ZrN => ?_) (fun ZpW => ?_)
  ·subst ZpW
   refine nw ?_
   refine AWP.seq ?_
   refine AWP.block ?_
   refine AWP.seq ?_
   refine nn ?_
   refine sr (ZaD (f := Zb.cells) (Zb.cells_eq x59) ZqX) ?_
   refine st ?_
   refine AWP.seq ?_
   obtain ⟨r62, Zsb, hF⟩ := bind_some hF
   refine ns ?_
   refine e3 ?_
   refine st ?_
   refine cm (Zj.weak (rn []) (Zha x59 _ Zsb) rfl (WS.mk (Za (Zo (lc (lc (lc (lc (lc (lc Zm))))))) Zd) Zc)) ?_
   refine st ?_
   refine nw ?_
   refine Zp hF (fun Zr8 hF => ?_) (fun Zr8 hF => ?_)
   ·refine AWP.seq ?_
    refine ns ?_
    obtain rfl := Zg hF
    refine ns ?_
    refine Exists.intro [] ?_
    refine st ?_
    exact wx (WS.mk (tc Zd) Zc)
   ·refine nw ?_
    refine ns ?_
    refine AWL.weak (rn []) ?_ (Zb4 v (ZhY + 1) ZpQ _ hF (Zg6 ++ [x59]) (by rw [Zmr]; simp) (by rw [Zmc]; simp) hlen47)
    exact (WS.mk (tp (tc (tc (Za (Zy (Zd2 (Zau hlen47 ZrN))) Zd)))) (Zi rfl (cc (cc (cc (cc (cc (cc Zk)))))) Zc))
  ·subst ZpW
   refine nw ?_
   refine AWP.seq ?_
   obtain ⟨r64, Zrd, hF⟩ := bind_some hF
   refine ns ?_
   refine e3 ?_
   refine st ?_
   refine cm (Zj.weak (rn []) (ZcS v.fName _ Zrd) rfl (WS.mk (tc Zd) Zc)) ?_
   refine st ?_
   obtain rfl := Zg hF
   refine ns ?_
   refine Exists.intro [] ?_
   refine st ?_
   exact wx (WS.mk (tc Zd) Zc)
theorem Zhl : ∀ (v : Zb), ∀ r, ZV v = some r → ZV.M v r := ZcL.1
theorem values_formed_k1_ok : ∀ (v : Zb) (Zdp : Bool), ∀ r, ZP v Zdp = some r → ZP.M v Zdp r := ZcL.2.1
theorem values_formed_l2_ok : ∀ (v : Zb) (ZhY : Nat) (Zc6 : (List Zb)), ∀ r, ZO v ZhY Zc6 = some r → ZO.M v ZhY Zc6 r := ZcL.2.2

mutual
def Zaj (v : Zb) : Option (Int) :=
 Z1 1 v 0 v.fKids
 partial_fixpoint
def Z1 (n_3 : Int) (v : Zb) (x_9 : Nat) (Zbn : (List Zb)) : Option (Int) :=
 (match Zbn with
 | x11 :: Zlz =>
 Zaj x11 >>= fun r14 =>
 Z1 (IntKind.i64.wrap (n_3 + r14)) v (x_9 + 1) Zlz
 | [] =>
 some n_3)
 partial_fixpoint
end
def Zaj.M (v : Zb) (r : Int) : Prop :=
 Zj Tryd.prog 42 [.agg [.v (.int .i64 v.fOp), .v (.string v.fName), .v (.int .i64 v.fN), .sl (v.fKids.map Zb.cells), .v (.bool v.fSet.fAll), .sl (v.fSet.fList.map Ze.cells)]] [] (fun d b => d = .c none (.v (.int .i64 r)) ∧ b = [])
def Z1.M (n_3 : Int) (v : Zb) (x_9 : Nat) (Zbn : (List Zb)) (r : Int) : Prop :=
 ∀ ZdG : List Zb, v.fKids = ZdG ++ Zbn → x_9 = ZdG.length → v.fKids.length ≤ maxLen → AWL Tryd.prog 19 (Code.sub (ZF Tryd.f42) [1, 1, 0, 1, 0, 0]) (Code.cont Tryd.prog 19 (ZF Tryd.f42) [1, 1, 0, 1, 0] (ZcP tab Tryd.f42.results (Zde (.c none (.v (.int .i64 r))) []))) ⟨[(3, .c none (.v (.int .i64 n_3))), (7, .c none (.sl (v.fKids.map Zb.cells))), (8, .c none (.v (.int .i64 ((v.fKids.length : Nat) : Int)))), (9, .c none (.v (.int .i64 ((x_9 : Nat) : Int))))], []⟩
theorem Ze7 : (∀ (v : Zb), ∀ r, Zaj v = some r → Zaj.M v r) ∧ (∀ (n_3 : Int) (v : Zb) (x_9 : Nat) (Zbn : (List Zb)), ∀ r, Z1 n_3 v x_9 Zbn = some r → Z1.M n_3 v x_9 Zbn r) := by
 refine Zaj.mutual_partial_correctness Zaj.M Z1.M ?_ ?_
 ·intro values_size_l1' ZcJ v r hF
  unfold Zaj.M
  refine en Tryd.func42 ?_
  refine AWP.seq ?_
  refine ns ?_
  refine AWP.seq ?_
  refine ns ?_
  refine AWP.seq ?_
  refine AWP.seq ?_
  refine ns ?_
  intro hlen1
  (try rw [List.length_map] at hlen1)
  (try rw [List.length_map])
  refine st ?_
  refine AWP.block ?_
  refine AWP.loop ?_
  refine AWL.weak (rn []) ?_ (ZcJ 1 v 0 v.fKids _ hF ([]) rfl rfl hlen1)
  exact (WS.mk (tc (tc (tc (tc Zd)))) Zc)
 ·intro values_size' values_size_l1' Zik ZcJ n_3 v x_9 Zbn r hF
  unfold Z1.M
  intro ZdG Zil ZiD hlen1
  refine AWL.step ?_
  refine AWP.seq ?_
  refine ns ?_
  refine AWP.seq ?_
  refine nw ?_
  refine Z6 Zil ZiD (fun x11 Zlz ZlK ZpF Zql => ?_) (fun ZlK => ?_)
  ·subst ZlK
   refine nw ?_
   refine AWP.seq ?_
   refine AWP.block ?_
   refine AWP.seq ?_
   refine nn ?_
   refine sr (ZaD (f := Zb.cells) (Zb.cells_eq x11) ZpF) ?_
   refine st ?_
   obtain ⟨r14, ZnK, hF⟩ := bind_some hF
   refine ns ?_
   refine e3 ?_
   refine st ?_
   refine cm (Zj.weak (rn []) (Zik x11 _ ZnK) rfl (WS.mk (Za (Zo (lc (lc (lc (lc (lc (lc Zm))))))) Zd) Zc)) ?_
   refine st ?_
   refine ns ?_
   refine AWL.weak (rn []) ?_ (ZcJ (IntKind.i64.wrap (n_3 + r14)) v (x_9 + 1) Zlz _ hF (ZdG ++ [x11]) (by rw [Zil]; simp) (by rw [ZiD]; simp) hlen1)
   exact (WS.mk (tc (tc (tc (Za (Zy (Zd2 (Zau hlen1 Zql))) Zd)))) Zc)
  ·subst ZlK
   refine nw ?_
   refine AWP.seq ?_
   refine ns ?_
   obtain rfl := Zg hF
   refine ns ?_
   refine Exists.intro [] ?_
   refine st ?_
   exact wx (WS.mk (tc Zd) Zc)
theorem ZiT : ∀ (v : Zb), ∀ r, Zaj v = some r → Zaj.M v r := Ze7.1
theorem values_size_l1_ok : ∀ (n_3 : Int) (v : Zb) (x_9 : Nat) (Zbn : (List Zb)), ∀ r, Z1 n_3 v x_9 Zbn = some r → Z1.M n_3 v x_9 Zbn r := Ze7.2

def Zbm (v : Zb) : Option (Int) :=
 Z8 v >>= fun r3 =>
 if (decide (r3 > 1000)) = true then
 some 4
 else
 Zaj v >>= fun r7 =>
 if (decide (r7 > 60000)) = true then
 some 3
 else
 ZV v >>= fun r9 =>
 if (!r9) = true then
 some 1
 else
 some 0
def Zbm.M (v : Zb) (r : Int) : Prop :=
 Zj Tryd.prog 15 [.agg [.v (.int .i64 v.fOp), .v (.string v.fName), .v (.int .i64 v.fN), .sl (v.fKids.map Zb.cells), .v (.bool v.fSet.fAll), .sl (v.fSet.fList.map Ze.cells)]] [] (fun d b => d = .c none (.v (.int .i64 r)) ∧ b = [])
theorem ZhU (v : Zb) (r : Int) (hF : Zbm v = some r) : Zbm.M v r := by
 unfold Zbm at hF
 unfold Zbm.M
 refine en Tryd.func15 ?_
 refine AWP.seq ?_
 refine ns ?_
 refine AWP.seq ?_
 refine AWP.seq ?_
 obtain ⟨r3, hr3, hF⟩ := bind_some hF
 refine ns ?_
 refine e3 ?_
 refine st ?_
 refine cm (Zj.weak (rn []) (ZhX v _ hr3) rfl (WS.mk (Za (Zo (lc (lc (lc (lc (lc (lc Zm))))))) Zd) Zc)) ?_
 refine st ?_
 refine nw ?_
 refine Zp hF (fun hc4 hF => ?_) (fun hc4 hF => ?_)
 ·refine AWP.seq ?_
  refine ns ?_
  obtain rfl := Zg hF
  refine ns ?_
  refine Exists.intro [] ?_
  refine st ?_
  exact wx (WS.mk (tc Zd) Zc)
 ·refine nw ?_
  refine AWP.seq ?_
  refine AWP.seq ?_
  obtain ⟨r7, hr7, hF⟩ := bind_some hF
  refine ns ?_
  refine e3 ?_
  refine st ?_
  refine cm (Zj.weak (rn []) (ZiT v _ hr7) rfl (WS.mk (Za (Zo (lc (lc (lc (lc (lc (lc Zm))))))) Zd) Zc)) ?_
  refine st ?_
  refine nw ?_
  refine Zp hF (fun hc8 hF => ?_) (fun hc8 hF => ?_)
  ·refine AWP.seq ?_
   refine ns ?_
   obtain rfl := Zg hF
   refine ns ?_
   refine Exists.intro [] ?_
   refine st ?_
   exact wx (WS.mk (tc Zd) Zc)
  ·refine nw ?_
   refine AWP.seq ?_
   refine AWP.seq ?_
   obtain ⟨r9, hr9, hF⟩ := bind_some hF
   refine ns ?_
   refine e3 ?_
   refine st ?_
   refine cm (Zj.weak (rn []) (Zhl v _ hr9) rfl (WS.mk (Za (Zo (lc (lc (lc (lc (lc (lc Zm))))))) Zd) Zc)) ?_
   refine st ?_
   refine nw ?_
   refine Zp hF (fun ZaK hF => ?_) (fun ZaK hF => ?_)
   ·refine AWP.seq ?_
    refine ns ?_
    obtain rfl := Zg hF
    refine ns ?_
    refine Exists.intro [] ?_
    refine st ?_
    exact wx (WS.mk (tc Zd) Zc)
   ·refine nw ?_
    refine AWP.seq ?_
    refine ns ?_
    obtain rfl := Zg hF
    refine ns ?_
    refine Exists.intro [] ?_
    refine st ?_
    exact wx (WS.mk (tc Zd) Zc)

def ZaJ (l_0 : (List ByteArray)) (v : Zb) (Zdp : Nat) (Zcg : (List Ze)) : Option ((List ByteArray)) :=
 (match Zcg with
 | x96 :: Zpu =>
 strconv_Itoa x96.fN >>= fun r99 =>
 ZaF ((l_0.length + ([x96.fCon, r99]).length) * 16 ≤ 140737488355328) >>= fun _ =>
 ZaJ (l_0 ++ ([x96.fCon, r99])) v (Zdp + 1) Zpu
 | [] =>
 ZaF ((l_0.length + ([(ByteArray.mk #[125])]).length) * 16 ≤ 140737488355328) >>= fun _ =>
 some (l_0 ++ ([(ByteArray.mk #[125])])))
 partial_fixpoint
def ZaJ.M (l_0 : (List ByteArray)) (v : Zb) (Zdp : Nat) (Zcg : (List Ze)) (r : (List ByteArray)) : Prop :=
 ∀ ZgY : List Ze, v.fSet.fList = ZgY ++ Zcg → Zdp = ZgY.length → v.fSet.fList.length ≤ maxLen → AWL Tryd.prog 97 (Code.sub (ZF Tryd.f55) [1, 0, 1, 0, 1, 1, 1, 1, 1, 1, 1, 1, 1, 0, 1, 1, 0, 1, 0, 0]) (Code.cont Tryd.prog 97 (ZF Tryd.f55) [1, 0, 1, 0, 1, 1, 1, 1, 1, 1, 1, 1, 1, 0, 1, 1, 0, 1, 0] (ZcP tab Tryd.f55.results (Zde (.c (some (0, 9)) (.sl (r.map c_S))) []))) ⟨[(0, .c (some (0, 9)) (.sl (l_0.map c_S))), (51, .c none (.sl (v.fSet.fList.map Ze.cells))), (52, .c none (.v (.int .i64 ((v.fSet.fList.length : Nat) : Int)))), (53, .c none (.v (.int .i64 ((Zdp : Nat) : Int))))], []⟩
theorem Zgo (l_0 : (List ByteArray)) (v : Zb) (Zdp : Nat) (Zcg : (List Ze)) : ∀ r, ZaJ l_0 v Zdp Zcg = some r → ZaJ.M l_0 v Zdp Zcg r := by
 refine ZaJ.partial_correctness v (fun l_0 Zdp Zcg r => ZaJ.M l_0 v Zdp Zcg r) ?_ l_0 Zdp Zcg
 intro values_words_l1' Zdw l_0 Zdp Zcg r hF
 have Zgf := fun (l_0 : (List ByteArray)) (_v : Zb) (Zdp : Nat) (Zcg : (List Ze)) => Zdw l_0 Zdp Zcg
 clear Zdw
 unfold ZaJ.M
 intro ZgY ZmL Zmf hlen84
 refine AWL.step ?_
 refine AWP.seq ?_
 refine ns ?_
 refine AWP.seq ?_
 refine nw ?_
 refine Z6 ZmL Zmf (fun x96 Zpu Zpv Zry ZrI => ?_) (fun Zpv => ?_)
 ·subst Zpv
  refine nw ?_
  refine AWP.seq ?_
  refine AWP.block ?_
  refine AWP.seq ?_
  refine nn ?_
  refine sr (ZaD (f := Ze.cells) (Ze.cells_eq x96) Zry) ?_
  refine st ?_
  obtain ⟨r99, ZqV, hF⟩ := bind_some hF
  obtain ⟨Zqv, hF⟩ := ZH hF
  refine nn ?_
  refine Or.inl (Exists.intro 7 (Exists.intro [[], [], [], [], [], [], []] (Exists.intro [([57, 58, 59, 60, 61, 62, 63], [], []), ([57, 58, 59, 60, 61, 62, 63], [], []), ([57, 59, 60, 61, 62, 63], [], []), ([57, 58, 59, 60, 61, 62, 63], [], []), ([57, 58, 59, 61, 62, 63], [], []), ([57, 58, 59, 62, 63], [], []), ([57, 63], [], [])] (Exists.intro [57, 58, 59, 60, 61, 62, 63] (And.intro (by decide +kernel) ?_)))))
  refine dp ?_
  refine dp ?_
  refine dp ?_
  refine dp ?_
  refine dp ?_
  (refine st ?_; apply Exists.intro; apply Exists.intro; apply And.intro; (focus ((conv => whnf); refine Exists.intro [] ?_; (conv => whnf); refine And.intro rfl ?_; (conv => whnf); refine Zj.mono (Zj.weak (rn []) (Zdt x96.fN _ ZqV) rfl (WS.mk (tc Zd) Zc)) ?_; rintro d b ⟨rfl, rfl⟩; exact And.intro rfl (And.intro rfl rfl))); apply And.intro; (focus exact rfl); (conv => whnf))
  refine de (Zaz (f := c_S) (lc Zm) (Zaz (f := c_S) (lc Zm) (ZC (f := c_S)))) ?_
  refine sa (fun l => ZaB l (fun x => ZcB x)) Zqv ?_
  refine Exists.intro _ (And.intro (WE.refl _) ?_)
  rw [← List.map_append]
  refine st ?_
  refine ns ?_
  refine AWL.weak (rn [(64, 0)]) ?_ (Zgf (l_0 ++ ([x96.fCon, r99])) v (Zdp + 1) Zpu _ hF (ZgY ++ [x96]) (by rw [ZmL]; simp) (by rw [Zmf]; simp) hlen84)
  exact (WS.mk (Za (Zaf rfl (WE.refl _)) (tc (tc (Za (Zy (Zd2 (Zau hlen84 ZrI))) Zd)))) Zc)
 ·subst Zpv
  refine nw ?_
  refine AWP.seq ?_
  obtain ⟨Zqu, hF⟩ := ZH hF
  refine ns ?_
  refine Exists.intro _ (And.intro (Zaz (f := c_S) (lc Zm) (ZC (f := c_S))) ?_)
  refine sa (fun l => ZaB l (fun x => ZcB x)) Zqu ?_
  refine Exists.intro _ (And.intro (WE.refl _) ?_)
  rw [← List.map_append]
  refine st ?_
  obtain rfl := Zg hF
  refine ns ?_
  refine Exists.intro [] ?_
  refine st ?_
  exact Exists.intro (rn [(68, 0)]) (WS.mk (Za (Zaf rfl (WE.refl _)) Zd) Zc)

mutual
def Zam (l : (List ByteArray)) (v : Zb) : Option ((List ByteArray)) :=
 if (v.fOp == 1) = true then
 strconv_Itoa v.fN >>= fun r52 =>
 ZaF ((l.length + ([r52]).length) * 16 ≤ 140737488355328) >>= fun _ =>
 some (l ++ ([r52]))
 else
 if (v.fOp == 2) = true then
 strconv_Itoa v.fN >>= fun r55 =>
 ZaF ((((ByteArray.mk #[35]).size + r55.size : Nat) : Int) ≤ IntKind.i64.max) >>= fun _ =>
 ZaF ((l.length + ([((ByteArray.mk #[35]) ++ r55)]).length) * 16 ≤ 140737488355328) >>= fun _ =>
 some (l ++ ([((ByteArray.mk #[35]) ++ r55)]))
 else
 if (v.fOp == 4) = true then
 ZaF ((l.length + ([(ByteArray.mk #[60, 102, 117, 110, 62])]).length) * 16 ≤ 140737488355328) >>= fun _ =>
 some (l ++ ([(ByteArray.mk #[60, 102, 117, 110, 62])]))
 else
 if (v.fOp == 6) = true then
 ZaF ((l.length + ([(ByteArray.mk #[63])]).length) * 16 ≤ 140737488355328) >>= fun _ =>
 some (l ++ ([(ByteArray.mk #[63])]))
 else
 if (v.fOp == 5) = true then
 if v.fSet.fAll = true then
 ZaF ((l.length + ([(ByteArray.mk #[33, 42])]).length) * 16 ≤ 140737488355328) >>= fun _ =>
 some (l ++ ([(ByteArray.mk #[33, 42])]))
 else
 ZaF ((l.length + ([(ByteArray.mk #[33, 123])]).length) * 16 ≤ 140737488355328) >>= fun _ =>
 ZaJ (l ++ ([(ByteArray.mk #[33, 123])])) v 0 v.fSet.fList
 else
 if (((v.fKids.length : Nat) : Int) == 0) = true then
 ZaF ((l.length + ([v.fName]).length) * 16 ≤ 140737488355328) >>= fun _ =>
 some (l ++ ([v.fName]))
 else
 ZaF ((l.length + ([(ByteArray.mk #[40]), v.fName]).length) * 16 ≤ 140737488355328) >>= fun _ =>
 Z9 (l ++ ([(ByteArray.mk #[40]), v.fName])) v 0 v.fKids
 partial_fixpoint
def Z9 (l_0 : (List ByteArray)) (v : Zb) (Zh0 : Nat) (Zc4 : (List Zb)) : Option ((List ByteArray)) :=
 (match Zc4 with
 | ZnF :: ZnC =>
 Zam l_0 ZnF >>= fun Zpi =>
 Z9 Zpi v (Zh0 + 1) ZnC
 | [] =>
 ZaF ((l_0.length + ([(ByteArray.mk #[41])]).length) * 16 ≤ 140737488355328) >>= fun _ =>
 some (l_0 ++ ([(ByteArray.mk #[41])])))
 partial_fixpoint
end
def Zam.M (l : (List ByteArray)) (v : Zb) (r : (List ByteArray)) : Prop :=
 Zj Tryd.prog 55 [.c (some (0, 9)) (.sl (l.map c_S)), .agg [.v (.int .i64 v.fOp), .v (.string v.fName), .v (.int .i64 v.fN), .sl (v.fKids.map Zb.cells), .v (.bool v.fSet.fAll), .sl (v.fSet.fList.map Ze.cells)]] [] (fun d b => d = .c (some (0, 9)) (.sl (r.map c_S)) ∧ b = [])
def Z9.M (l_0 : (List ByteArray)) (v : Zb) (Zh0 : Nat) (Zc4 : (List Zb)) (r : (List ByteArray)) : Prop :=
 ∀ ZgU : List Zb, v.fKids = ZgU ++ Zc4 → Zh0 = ZgU.length → v.fKids.length ≤ maxLen → AWL Tryd.prog 97 (Code.sub (ZF Tryd.f55) [1, 1, 1, 1, 0, 1, 0, 0]) (Code.cont Tryd.prog 97 (ZF Tryd.f55) [1, 1, 1, 1, 0, 1, 0] (ZcP tab Tryd.f55.results (Zde (.c (some (0, 9)) (.sl (r.map c_S))) []))) ⟨[(0, .c (some (0, 9)) (.sl (l_0.map c_S))), (84, .c none (.sl (v.fKids.map Zb.cells))), (85, .c none (.v (.int .i64 ((v.fKids.length : Nat) : Int)))), (86, .c none (.v (.int .i64 ((Zh0 : Nat) : Int))))], []⟩
theorem ZeJ : (∀ (l : (List ByteArray)) (v : Zb), ∀ r, Zam l v = some r → Zam.M l v r) ∧ (∀ (l_0 : (List ByteArray)) (v : Zb) (Zh0 : Nat) (Zc4 : (List Zb)), ∀ r, Z9 l_0 v Zh0 Zc4 = some r → Z9.M l_0 v Zh0 Zc4 r) := by
 refine Zam.mutual_partial_correctness Zam.M Z9.M ?_ ?_
 ·intro values_words_l2' Zco l v r hF
  unfold Zam.M
  refine en Tryd.func55 ?_
  refine AWP.seq ?_
  refine ns ?_
  refine AWP.seq ?_
  refine AWP.seq ?_
  refine ns ?_
  refine AWP.block ?_
  refine AWP.seq ?_
  refine ns ?_
  refine nw ?_
  refine Zp hF (fun Zrx hF => ?_) (fun Zrx hF => ?_)
  ·refine AWP.seq ?_
   obtain ⟨r52, ZrU, hF⟩ := bind_some hF
   obtain ⟨Zro, hF⟩ := ZH hF
   refine ns ?_
   refine e3 ?_
   refine st ?_
   refine cm (Zj.weak (rn []) (Zdt v.fN _ ZrU) rfl (WS.mk (tc Zd) Zc)) ?_
   refine st ?_
   refine Exists.intro _ (And.intro (Zaz (f := c_S) (lc Zm) (ZC (f := c_S))) ?_)
   refine sa (fun l => ZaB l (fun x => ZcB x)) Zro ?_
   refine Exists.intro _ (And.intro (WE.refl _) ?_)
   rw [← List.map_append]
   refine st ?_
   obtain rfl := Zg hF
   refine ns ?_
   refine Exists.intro [] ?_
   refine st ?_
   exact Exists.intro (rn [(18, 0)]) (WS.mk (Za (Zaf rfl (WE.refl _)) Zd) Zc)
  ·refine AWP.seq ?_
   refine ns ?_
   refine nw ?_
   refine Zp hF (fun ZcA hF => ?_) (fun ZcA hF => ?_)
   ·refine AWP.seq ?_
    obtain ⟨r55, Zrw, hF⟩ := bind_some hF
    obtain ⟨Zq7, hF⟩ := ZH hF
    obtain ⟨Zr3, hF⟩ := ZH hF
    refine ns ?_
    refine e3 ?_
    refine st ?_
    refine cm (Zj.weak (rn []) (Zdt v.fN _ Zrw) rfl (WS.mk (tc Zd) Zc)) ?_
    refine st ?_
    refine And.intro Zq7 ?_
    refine st ?_
    refine Exists.intro _ (And.intro (Zaz (f := c_S) (lc Zm) (ZC (f := c_S))) ?_)
    refine sa (fun l => ZaB l (fun x => ZcB x)) Zr3 ?_
    refine Exists.intro _ (And.intro (WE.refl _) ?_)
    rw [← List.map_append]
    refine st ?_
    obtain rfl := Zg hF
    refine ns ?_
    refine Exists.intro [] ?_
    refine st ?_
    exact Exists.intro (rn [(27, 0)]) (WS.mk (Za (Zaf rfl (WE.refl _)) Zd) Zc)
   ·refine AWP.seq ?_
    refine ns ?_
    refine nw ?_
    refine Zp hF (fun Zl5 hF => ?_) (fun Zl5 hF => ?_)
    ·refine AWP.seq ?_
     obtain ⟨Zrb, hF⟩ := ZH hF
     refine ns ?_
     refine Exists.intro _ (And.intro (Zaz (f := c_S) (lc Zm) (ZC (f := c_S))) ?_)
     refine sa (fun l => ZaB l (fun x => ZcB x)) Zrb ?_
     refine Exists.intro _ (And.intro (WE.refl _) ?_)
     rw [← List.map_append]
     refine st ?_
     obtain rfl := Zg hF
     refine ns ?_
     refine Exists.intro [] ?_
     refine st ?_
     exact Exists.intro (rn [(32, 0)]) (WS.mk (Za (Zaf rfl (WE.refl _)) Zd) Zc)
    ·refine AWP.seq ?_
     refine ns ?_
     refine nw ?_
     refine Zp hF (fun Zfc hF => ?_) (fun Zfc hF => ?_)
     ·refine AWP.seq ?_
      obtain ⟨Zq9, hF⟩ := ZH hF
      refine ns ?_
      refine Exists.intro _ (And.intro (Zaz (f := c_S) (lc Zm) (ZC (f := c_S))) ?_)
      refine sa (fun l => ZaB l (fun x => ZcB x)) Zq9 ?_
      refine Exists.intro _ (And.intro (WE.refl _) ?_)
      rw [← List.map_append]
      refine st ?_
      obtain rfl := Zg hF
      refine ns ?_
      refine Exists.intro [] ?_
      refine st ?_
      exact Exists.intro (rn [(37, 0)]) (WS.mk (Za (Zaf rfl (WE.refl _)) Zd) Zc)
     ·refine AWP.seq ?_
      refine ns ?_
      refine nw ?_
      refine Zp hF (fun Zqk hF => ?_) (fun Zqk hF => ?_)
      ·refine AWP.seq ?_
       refine AWP.seq ?_
       refine ns ?_
       refine nw ?_
       refine Zp hF (fun Zpp hF => ?_) (fun Zpp hF => ?_)
       ·refine AWP.seq ?_
        obtain ⟨Zpk, hF⟩ := ZH hF
        refine ns ?_
        refine Exists.intro _ (And.intro (Zaz (f := c_S) (lc Zm) (ZC (f := c_S))) ?_)
        refine sa (fun l => ZaB l (fun x => ZcB x)) Zpk ?_
        refine Exists.intro _ (And.intro (WE.refl _) ?_)
        rw [← List.map_append]
        refine st ?_
        obtain rfl := Zg hF
        refine ns ?_
        refine Exists.intro [] ?_
        refine st ?_
        exact Exists.intro (rn [(45, 0)]) (WS.mk (Za (Zaf rfl (WE.refl _)) Zd) Zc)
       ·refine nw ?_
        refine AWP.seq ?_
        obtain ⟨ZrZ, hF⟩ := ZH hF
        refine ns ?_
        refine Exists.intro _ (And.intro (Zaz (f := c_S) (lc Zm) (ZC (f := c_S))) ?_)
        refine sa (fun l => ZaB l (fun x => ZcB x)) ZrZ ?_
        refine Exists.intro _ (And.intro (WE.refl _) ?_)
        rw [← List.map_append]
        refine st ?_
        refine AWP.seq ?_
        refine AWP.seq ?_
        refine ns ?_
        intro hlen84
        (try rw [List.length_map] at hlen84)
        (try rw [List.length_map])
        refine st ?_
        refine AWP.block ?_
        refine AWP.loop ?_
        refine AWL.weak (rn [(48, 0)]) ?_ (Zgo (l ++ ([(ByteArray.mk #[33, 123])])) v 0 v.fSet.fList _ hF ([]) rfl rfl hlen84)
        exact (WS.mk (Za (Zaf rfl (WE.refl _)) (tc (tc (tc Zd)))) Zc)
      ·refine nw ?_
       refine AWP.seq ?_
       refine AWP.seq ?_
       refine ns ?_
       intro hlen105
       (try rw [List.length_map] at hlen105)
       (try rw [List.length_map])
       refine st ?_
       refine nw ?_
       refine Zp hF (fun ZqB hF => ?_) (fun ZqB hF => ?_)
       ·refine AWP.seq ?_
        obtain ⟨ZqC, hF⟩ := ZH hF
        refine ns ?_
        refine Exists.intro _ (And.intro (Zaz (f := c_S) (lc Zm) (ZC (f := c_S))) ?_)
        refine sa (fun l => ZaB l (fun x => ZcB x)) ZqC ?_
        refine Exists.intro _ (And.intro (WE.refl _) ?_)
        rw [← List.map_append]
        refine st ?_
        obtain rfl := Zg hF
        refine ns ?_
        refine Exists.intro [] ?_
        refine st ?_
        exact Exists.intro (rn [(77, 0)]) (WS.mk (Za (Zaf rfl (WE.refl _)) Zd) Zc)
       ·refine nw ?_
        refine AWP.seq ?_
        obtain ⟨ZqH, hF⟩ := ZH hF
        refine ns ?_
        refine Exists.intro _ (And.intro (Zaz (f := c_S) (lc Zm) (Zaz (f := c_S) (lc Zm) (ZC (f := c_S)))) ?_)
        refine sa (fun l => ZaB l (fun x => ZcB x)) ZqH ?_
        refine Exists.intro _ (And.intro (WE.refl _) ?_)
        rw [← List.map_append]
        refine st ?_
        refine AWP.seq ?_
        refine AWP.seq ?_
        refine ns ?_
        intro hlen122
        (try rw [List.length_map] at hlen122)
        (try rw [List.length_map])
        refine st ?_
        refine AWP.block ?_
        refine AWP.loop ?_
        refine AWL.weak (rn [(82, 0)]) ?_ (Zco (l ++ ([(ByteArray.mk #[40]), v.fName])) v 0 v.fKids _ hF ([]) rfl rfl hlen122)
        exact (WS.mk (Za (Zaf rfl (WE.refl _)) (tc (tc (tc Zd)))) Zc)
 ·intro values_words' values_words_l2' ZhS Zco l_0 v Zh0 Zc4 r hF
  unfold Z9.M
  intro ZgU Zmi Zmy hlen122
  refine AWL.step ?_
  refine AWP.seq ?_
  refine ns ?_
  refine AWP.seq ?_
  refine nw ?_
  refine Z6 Zmi Zmy (fun ZnF ZnC Zn0 ZqI ZqF => ?_) (fun Zn0 => ?_)
  ·subst Zn0
   refine nw ?_
   refine AWP.seq ?_
   refine AWP.block ?_
   refine AWP.seq ?_
   refine nn ?_
   refine sr (ZaD (f := Zb.cells) (Zb.cells_eq ZnF) ZqI) ?_
   refine st ?_
   obtain ⟨Zpi, ZqM, hF⟩ := bind_some hF
   refine ns ?_
   refine e3 ?_
   refine st ?_
   refine cm (Zj.weak (rn [(0, 0)]) (ZhS l_0 ZnF _ ZqM) rfl (WS.mk (Za (Zaf rfl (WE.refl _)) (Za (Zo (lc (lc (lc (lc (lc (lc Zm))))))) Zd)) Zc)) ?_
   refine st ?_
   refine ns ?_
   refine AWL.weak (rn [(92, 0)]) ?_ (Zco Zpi v (Zh0 + 1) ZnC _ hF (ZgU ++ [ZnF]) (by rw [Zmi]; simp) (by rw [Zmy]; simp) hlen122)
   exact (WS.mk (Za (Zaf rfl (WE.refl _)) (tc (tc (Za (Zy (Zd2 (Zau hlen122 ZqF))) Zd)))) Zc)
  ·subst Zn0
   refine nw ?_
   refine AWP.seq ?_
   obtain ⟨Zqz, hF⟩ := ZH hF
   refine ns ?_
   refine Exists.intro _ (And.intro (Zaz (f := c_S) (lc Zm) (ZC (f := c_S))) ?_)
   refine sa (fun l => ZaB l (fun x => ZcB x)) Zqz ?_
   refine Exists.intro _ (And.intro (WE.refl _) ?_)
   rw [← List.map_append]
   refine st ?_
   obtain rfl := Zg hF
   refine ns ?_
   refine Exists.intro [] ?_
   refine st ?_
   exact Exists.intro (rn [(96, 0)]) (WS.mk (Za (Zaf rfl (WE.refl _)) Zd) Zc)
theorem Zh3 : ∀ (l : (List ByteArray)) (v : Zb), ∀ r, Zam l v = some r → Zam.M l v r := ZeJ.1
theorem values_words_l2_ok : ∀ (l_0 : (List ByteArray)) (v : Zb) (Zh0 : Nat) (Zc4 : (List Zb)), ∀ r, Z9 l_0 v Zh0 Zc4 = some r → Z9.M l_0 v Zh0 Zc4 r := ZeJ.2

def Za1 (v : Zb) : Option (ByteArray) :=
 Zbm v >>= fun r3 =>
 if (r3 != 0) = true then
 some (ByteArray.mk #[])
 else
 Zam ([] : List ByteArray) v >>= fun r5 =>
 strings_Join r5 (ByteArray.mk #[32]) >>= fun r6 =>
 some r6
def Za1.M (v : Zb) (r : ByteArray) : Prop :=
 Zj Tryd.prog 38 [.agg [.v (.int .i64 v.fOp), .v (.string v.fName), .v (.int .i64 v.fN), .sl (v.fKids.map Zb.cells), .v (.bool v.fSet.fAll), .sl (v.fSet.fList.map Ze.cells)]] [] (fun d b => d = .c none (.v (.string r)) ∧ b = [])
theorem ZhR (v : Zb) (r : ByteArray) (hF : Za1 v = some r) : Za1.M v r := by
 unfold Za1 at hF
 unfold Za1.M
 refine en Tryd.func38 ?_
 refine AWP.seq ?_
 refine ns ?_
 refine AWP.seq ?_
 refine AWP.seq ?_
 obtain ⟨r3, hr3, hF⟩ := bind_some hF
 refine ns ?_
 refine e3 ?_
 refine st ?_
 refine cm (Zj.weak (rn []) (ZhU v _ hr3) rfl (WS.mk (Za (Zo (lc (lc (lc (lc (lc (lc Zm))))))) Zd) Zc)) ?_
 refine st ?_
 refine nw ?_
 refine Zp hF (fun hc4 hF => ?_) (fun hc4 hF => ?_)
 ·refine AWP.seq ?_
  refine ns ?_
  obtain rfl := Zg hF
  refine ns ?_
  refine Exists.intro [] ?_
  refine st ?_
  exact wx (WS.mk (tc Zd) Zc)
 ·refine nw ?_
  refine AWP.seq ?_
  obtain ⟨r5, hr5, hF⟩ := bind_some hF
  obtain ⟨r6, hr6, hF⟩ := bind_some hF
  refine ns ?_
  refine e3 ?_
  refine st ?_
  refine cm (Zj.weak (rn []) (Zh3 ([] : List ByteArray) v _ hr5) rfl (WS.mk (Za Zl9 (Za (Zo (lc (lc (lc (lc (lc (lc Zm))))))) Zd)) Zc)) ?_
  refine st ?_
  refine Exists.intro [7] (Exists.intro [] (Exists.intro [] ?_))
  refine st ?_
  refine cm (Zj.weak (rn []) (Zh1 r5 (ByteArray.mk #[32]) _ hr6) rfl (WS.mk (tc (tc Zd)) Zc)) ?_
  refine st ?_
  obtain rfl := Zg hF
  refine ns ?_
  refine Exists.intro [] ?_
  refine st ?_
  exact wx (WS.mk (tc Zd) Zc)

def ZaQ (s : List Ze) : Option (List Ze) := ZaF ((0 + s.length) * 24 ≤ 140737488355328) >>= fun _ => some s
theorem ZfW (s r : List Ze) (hF : ZaQ s = some r) : ZaQ.M s r := by
 unfold ZaQ at hF
 obtain ⟨hg, hF⟩ := ZH hF
 obtain rfl := Zg hF
 unfold ZaQ.M
 refine enter tabOk Tryd.func59 rfl (by decide) (Nat.le_of_ble_eq_true rfl) ?_
 refine AWP.seq ?_
 refine ns ?_
 refine AWP.seq ?_
 refine AWP.seq ?_
 refine ns ?_
 refine And.intro (fun hnil => ?_) ?_
 ·obtain rfl : s = [] := by simpa using hnil
  refine st ?_
  refine nw ?_
  refine AWP.seq ?_
  refine ns ?_
  refine ns ?_
  refine Exists.intro [] ?_
  refine st ?_
  exact Exists.intro (rn []) (WS.mk (Za Zl9 Zd) Zc)
 ·refine st ?_
  refine nw ?_
  refine nw ?_
  refine AWP.seq ?_
  refine ns ?_
  refine Exists.intro [] (And.intro (WE.refl _) ?_)
  refine st ?_
  refine And.intro (ZaB _ (fun x => Ze.cells_len x)) (And.intro (by have h := hg; simp only [List.length_map, List.length_append, List.length_cons, List.length_nil, Nat.zero_add] at h ⊢; first | exact h | (unfold maxLen; omega) | omega) (And.intro (by have h := hg; simp only [List.length_map, List.length_append, List.length_cons, List.length_nil, Nat.zero_add] at h ⊢; first | exact h | (unfold maxLen; omega) | omega) (Exists.intro _ (And.intro (WE.refl _) ?_))))
  refine st ?_
  refine ns ?_
  refine Exists.intro [] ?_
  refine st ?_
  exact Exists.intro (rn [(7, 0)]) (WS.mk (Za (Zaf rfl (WE.refl _)) Zd) Zc)

mutual
def Zaq (v : Zb) : Option (Zb) :=
 ZaQ v.fSet.fList >>= fun r1 =>
 Zai v 0 ([]) r1 v.fKids
 partial_fixpoint
def Zai (v : Zb) (Zdg : Nat) (Zey : (List Zb)) (r1 : ((List Ze))) (ZaS : (List Zb)) : Option (Zb) :=
 (match ZaS with
 | x60 :: Zqm =>
 Zaq x60 >>= fun r69 =>
 ZaF ((Zey.length + ([r69]).length) * 88 ≤ 140737488355328) >>= fun _ =>
 Zai v (Zdg + 1) (Zey ++ ([r69])) r1 Zqm
 | [] =>
 some (Zb.mk v.fOp v.fName v.fN Zey (Zf.mk v.fSet.fAll r1)))
 partial_fixpoint
end
def Zaq.M (v : Zb) (r : Zb) : Prop :=
 Zj Tryd.prog 44 [.agg [.v (.int .i64 v.fOp), .v (.string v.fName), .v (.int .i64 v.fN), .sl (v.fKids.map Zb.cells), .v (.bool v.fSet.fAll), .sl (v.fSet.fList.map Ze.cells)]] [] (fun d b => d = .agg [.v (.int .i64 r.fOp), .v (.string r.fName), .v (.int .i64 r.fN), .sl (r.fKids.map Zb.cells), .v (.bool r.fSet.fAll), .sl (r.fSet.fList.map Ze.cells)] ∧ b = [])
def Zai.M (v : Zb) (Zdg : Nat) (Zey : (List Zb)) (r1 : ((List Ze))) (ZaS : (List Zb)) (r : Zb) : Prop :=
 ∀ ZcK : List Zb, v.fKids = ZcK ++ ZaS → Zdg = ZcK.length → v.fKids.length ≤ maxLen → AWL Tryd.prog 30 (Code.sub (ZF Tryd.f44) [1, 1, 1, 1, 0, 1, 0, 0]) (Code.cont Tryd.prog 30 (ZF Tryd.f44) [1, 1, 1, 1, 0, 1, 0] (ZcP tab Tryd.f44.results (Zde (.agg [.v (.int .i64 r.fOp), .v (.string r.fName), .v (.int .i64 r.fN), .sl (r.fKids.map Zb.cells), .v (.bool r.fSet.fAll), .sl (r.fSet.fList.map Ze.cells)]) []))) ⟨[(1, .ptr 1 0), (2, .ptr 2 0), (15, .c none (.sl (v.fKids.map Zb.cells))), (16, .c none (.v (.int .i64 ((v.fKids.length : Nat) : Int)))), (17, .c none (.v (.int .i64 ((Zdg : Nat) : Int))))], [(1, [(none, .v (.int .i64 v.fOp)), (none, .v (.string v.fName)), (none, .v (.int .i64 v.fN)), ((some (4053, 28)), .sl (Zey.map Zb.cells)), (none, .v (.bool v.fSet.fAll)), ((some (4055, 41)), .sl (r1.map Ze.cells))]), (2, [(none, .v (.int .i64 0)), (none, .v (.string (ByteArray.mk #[]))), (none, .v (.int .i64 0)), (none, .nils), (none, .v (.bool false)), (none, .nils)])]⟩
theorem Zec : (∀ (v : Zb), ∀ r, Zaq v = some r → Zaq.M v r) ∧ (∀ (v : Zb) (Zdg : Nat) (Zey : (List Zb)) (r1 : ((List Ze))) (ZaS : (List Zb)), ∀ r, Zai v Zdg Zey r1 ZaS = some r → Zai.M v Zdg Zey r1 ZaS r) := by
 refine Zaq.mutual_partial_correctness Zaq.M Zai.M ?_ ?_
 ·intro values_copied_l1' Zb1 v r hF
  unfold Zaq.M
  refine en Tryd.func44 ?_
  refine AWP.seq ?_
  refine ns ?_
  refine AWP.seq ?_
  obtain ⟨r1, hr1, hF⟩ := bind_some hF
  refine ns ?_
  refine e3 ?_
  refine st ?_
  refine cm (Zj.weak (rn []) (ZfW v.fSet.fList _ hr1) rfl (WS.mk (tc Zd) Zc)) ?_
  refine st ?_
  refine AWP.seq ?_
  refine ns ?_
  refine AWP.seq ?_
  refine ns ?_
  refine AWP.seq ?_
  refine AWP.seq ?_
  refine ns ?_
  intro hlen36
  (try rw [List.length_map] at hlen36)
  (try rw [List.length_map])
  refine st ?_
  refine AWP.block ?_
  refine AWP.loop ?_
  refine AWL.weak (rn [(9, 4055)]) ?_ (Zb1 v 0 ([]) r1 v.fKids _ hF ([]) rfl rfl hlen36)
  exact (WS.mk (tp (tp (tc (tc (tc Zd))))) (Zi rfl (cc (cc (cc (Zm8 (cc (ZlV rfl (WE.refl _) Zk)))))) (Zi rfl (cc (cc (cc (cc (cc (cc Zk)))))) Zc)))
 ·intro values_copied' values_copied_l1' Zhw Zb1 v Zdg Zey r1 ZaS r hF
  unfold Zai.M
  intro ZcK Zgz Zgs hlen36
  refine AWL.step ?_
  refine AWP.seq ?_
  refine ns ?_
  refine AWP.seq ?_
  refine nw ?_
  refine Z6 Zgz Zgs (fun x60 Zqm Zqh Zrm Zrs => ?_) (fun Zqh => ?_)
  ·subst Zqh
   refine nw ?_
   refine AWP.seq ?_
   refine AWP.block ?_
   refine AWP.seq ?_
   refine nn ?_
   refine sr (ZaD (f := Zb.cells) (Zb.cells_eq x60) Zrm) ?_
   refine st ?_
   obtain ⟨r69, ZrB, hF⟩ := bind_some hF
   obtain ⟨ZqW, hF⟩ := ZH hF
   refine nn ?_
   refine Or.inl (Exists.intro 5 (Exists.intro [[], [], [], [], []] (Exists.intro [([21, 22, 23, 24, 25], [], []), ([22, 23, 24, 25], [], []), ([21, 22, 23, 24, 25], [], []), ([21, 22, 24, 25], [], []), ([21, 22, 25], [], [])] (Exists.intro [21, 22, 23, 24, 25] (And.intro (by decide +kernel) ?_)))))
   refine dp ?_
   refine dp ?_
   refine dp ?_
   (refine st ?_; apply Exists.intro; apply Exists.intro; apply And.intro; (focus ((conv => whnf); refine Exists.intro [] ?_; (conv => whnf); refine And.intro rfl ?_; (conv => whnf); refine Zj.mono (Zj.weak (rn []) (Zhw x60 _ ZrB) rfl (WS.mk (Za (Zo (lc (lc (lc (lc (lc (lc Zm))))))) Zd) Zc)) ?_; rintro d b ⟨rfl, rfl⟩; exact And.intro rfl (And.intro rfl rfl))); apply And.intro; (focus exact rfl); (conv => whnf))
   refine de (Zaz (f := Zb.cells) (ZhE (Zb.cells_eq r69) (lc (lc (lc (lc (lc (lc Zm))))))) (ZC (f := Zb.cells))) ?_
   refine sa (fun l => ZaB l (fun x => Zb.cells_len x)) ZqW ?_
   refine Exists.intro _ (And.intro (WE.refl _) ?_)
   rw [← List.map_append]
   refine st ?_
   refine ns ?_
   refine AWL.weak (rn [(26, 4053), (4055, 4055)]) ?_ (Zb1 v (Zdg + 1) (Zey ++ ([r69])) r1 Zqm _ hF (ZcK ++ [x60]) (by rw [Zgz]; simp) (by rw [Zgs]; simp) hlen36)
   exact (WS.mk (tp (tp (tc (tc (Za (Zy (Zd2 (Zau hlen36 Zrs))) Zd))))) (Zi rfl (cc (cc (cc (ZlV rfl (WE.refl _) (cc (ZlV rfl (WE.refl _) Zk)))))) (Zi rfl (cc (cc (cc (cc (cc (cc Zk)))))) Zc)))
  ·subst Zqh
   refine nw ?_
   refine AWP.seq ?_
   refine ns ?_
   obtain rfl := Zg hF
   refine ns ?_
   refine Exists.intro [] ?_
   refine st ?_
   exact wx (WS.mk (Za (Zo (lc (lc (lc (lc (lc (lc Zm))))))) Zd) Zc)
theorem Zhd : ∀ (v : Zb), ∀ r, Zaq v = some r → Zaq.M v r := Zec.1
theorem values_copied_l1_ok : ∀ (v : Zb) (Zdg : Nat) (Zey : (List Zb)) (r1 : ((List Ze))) (ZaS : (List Zb)), ∀ r, Zai v Zdg Zey r1 ZaS = some r → Zai.M v Zdg Zey r1 ZaS r := Zec.2

def Zav (l_2 : (List Zb)) (ZW : Zb) : Option ((List Zb) × Bool) :=
 if (((ZW.fOp == 3) && (ZW.fName.toList == (ByteArray.mk #[58]).toList)) && (((ZW.fKids.length : Nat) : Int) == 2)) = true then
 (ixI ZW.fKids 0) >>= fun x47 =>
 Zaq x47 >>= fun r48 =>
 ZaF ((l_2.length + ([r48]).length) * 88 ≤ 140737488355328) >>= fun _ =>
 (ixI ZW.fKids 1) >>= fun x50 =>
 Zav (l_2 ++ ([r48])) x50
 else
 if (((ZW.fOp != 3) || (!(ZW.fName.toList == (ByteArray.mk #[91, 93]).toList))) || (((ZW.fKids.length : Nat) : Int) != 0)) = true then
 some (([] : List Zb), false)
 else
 some (l_2, true)
 partial_fixpoint
def Zav.M (l_2 : (List Zb)) (ZW : Zb) (r : (List Zb) × Bool) : Prop :=
 AWL Tryd.prog 45 (Code.sub (ZF Tryd.f16) [1, 0, 0, 0]) (Code.cont Tryd.prog 45 (ZF Tryd.f16) [1, 0, 0] (ZcP tab Tryd.f16.results (Zde (.tup [.c (.sl (r.1.map Zb.cells)), .c (.v (.bool r.2))]) []))) ⟨[(1, .ptr 1 0), (2, .c (some (2, 28)) (.sl (l_2.map Zb.cells)))], [(1, [(none, .v (.int .i64 ZW.fOp)), (none, .v (.string ZW.fName)), (none, .v (.int .i64 ZW.fN)), (none, .sl (ZW.fKids.map Zb.cells)), (none, .v (.bool ZW.fSet.fAll)), (none, .sl (ZW.fSet.fList.map Ze.cells))])]⟩
theorem ZgX (l_2 : (List Zb)) (ZW : Zb) : ∀ r, Zav l_2 ZW = some r → Zav.M l_2 ZW r := by
 refine Zav.partial_correctness (fun l_2 ZW r => Zav.M l_2 ZW r) ?_ l_2 ZW
 intro values_List_l1' ZdZ l_2 ZW r hF
 have Zgx := fun (l_2 : (List Zb)) (ZW : Zb) => ZdZ l_2 ZW
 clear ZdZ
 unfold Zav.M
 refine AWL.step ?_
 refine AWP.seq ?_
 refine AWP.seq ?_
 refine AWP.cutN (fun T => ∃ r, WS r T ⟨[(1, .ptr 1 0), (2, .c (some (2, 28)) (.sl (l_2.map Zb.cells))), (17, .c none (.v (.bool (((ZW.fOp == 3) && (ZW.fName.toList == (ByteArray.mk #[58]).toList)) && (((ZW.fKids.length : Nat) : Int) == 2)))))], [(1, [(none, .v (.int .i64 ZW.fOp)), (none, .v (.string ZW.fName)), (none, .v (.int .i64 ZW.fN)), (none, .sl (ZW.fKids.map Zb.cells)), (none, .v (.bool ZW.fSet.fAll)), (none, .sl (ZW.fSet.fList.map Ze.cells))])]⟩) ?_ (fun T hw => ?_)
 ·refine ns ?_
  refine Zh true (fun Zjo => ?_) (fun Zjo => ?_)
  ·(conv => whnf)
   refine st ?_
   refine Zh true (fun ZdR => ?_) (fun ZdR => ?_)
   ·(conv => whnf)
    refine st ?_
    intro hlen43
    (try rw [List.length_map] at hlen43)
    (try rw [List.length_map])
    refine st ?_
    exact Exists.intro (rn [(2, 2)]) (WS.mk (tp (Za (Zaf rfl (WE.refl _)) (Za (Zy (web (And.intro Zjo ZdR))) Zd))) (Zi rfl (cc (cc (cc (cc (cc (cc Zk)))))) Zc))
   ·(conv => whnf)
    refine st ?_
    exact Exists.intro (rn [(2, 2)]) (WS.mk (tp (Za (Zaf rfl (WE.refl _)) (Za (Zy (web (And.intro Zjo ZdR))) Zd))) (Zi rfl (cc (cc (cc (cc (cc (cc Zk)))))) Zc))
  ·(conv => whnf)
   refine st ?_
   exact Exists.intro (rn [(2, 2)]) (WS.mk (tp (Za (Zaf rfl (WE.refl _)) (Za (Zy (web Zjo)) Zd))) (Zi rfl (cc (cc (cc (cc (cc (cc Zk)))))) Zc))
 obtain ⟨r0, hw⟩ := hw
 (conv => whnf)
 refine AWP.weak r0 hw ?_
 refine nw ?_
 refine Zp hF (fun Zfp hF => ?_) (fun Zfp hF => ?_)
 ·refine nw ?_
  refine AWP.block ?_
  refine AWP.seq ?_
  obtain ⟨x47, hx470, ZpM, hF⟩ := Zki hF
  obtain ⟨r48, Zr1, hF⟩ := bind_some hF
  obtain ⟨Zre, hF⟩ := ZH hF
  refine nn ?_
  refine sr (Zja (f := Zb.cells) (Zb.cells_eq x47) ZpM) ?_
  refine st ?_
  refine e3 ?_
  refine st ?_
  refine cm (Zj.weak (rn []) (Zhd x47 _ Zr1) rfl (WS.mk (Za (Zo (lc (lc (lc (lc (lc (lc Zm))))))) Zd) Zc)) ?_
  refine st ?_
  refine Exists.intro _ (And.intro (Zaz (f := Zb.cells) (ZhE (Zb.cells_eq r48) (lc (lc (lc (lc (lc (lc Zm))))))) (ZC (f := Zb.cells))) ?_)
  refine sa (fun l => ZaB l (fun x => Zb.cells_len x)) Zre ?_
  refine Exists.intro _ (And.intro (WE.refl _) ?_)
  rw [← List.map_append]
  refine st ?_
  obtain ⟨x50, hx500, ZrY, hF⟩ := Zki hF
  refine nn ?_
  refine sr (Zja (f := Zb.cells) (Zb.cells_eq x50) ZrY) ?_
  refine st ?_
  refine AWL.weak (rn [(25, 2)]) ?_ (Zgx (l_2 ++ ([r48])) x50 _ hF)
  exact (WS.mk (tp (Za (Zaf rfl (WE.refl _)) Zd)) (Zi rfl (cc (cc (cc (cc (cc (cc Zk)))))) Zc))
 ·refine nw ?_
  refine AWP.seq ?_
  refine AWP.seq ?_
  refine AWP.cutN (fun T => ∃ r, WS r T ⟨[(2, .c (some (2, 28)) (.sl (l_2.map Zb.cells))), (43, .c none (.v (.bool (((ZW.fOp != 3) || (!(ZW.fName.toList == (ByteArray.mk #[91, 93]).toList))) || (((ZW.fKids.length : Nat) : Int) != 0)))))], []⟩) ?_ (fun T hw => ?_)
  ·refine ns ?_
   refine Zh false (fun ZdC => ?_) (fun ZdC => ?_)
   ·(conv => whnf)
    refine st ?_
    exact Exists.intro (rn [(2, 2)]) (WS.mk (Za (Zaf rfl (WE.refl _)) (Za (Zy (web ZdC)) Zd)) Zc)
   ·(conv => whnf)
    refine st ?_
    refine Zh false (fun Zp6 => ?_) (fun Zp6 => ?_)
    ·(conv => whnf)
     refine st ?_
     exact Exists.intro (rn [(2, 2)]) (WS.mk (Za (Zaf rfl (WE.refl _)) (Za (Zy (web (And.intro ZdC Zp6))) Zd)) Zc)
    ·(conv => whnf)
     refine st ?_
     intro hlen51
     (try rw [List.length_map] at hlen51)
     (try rw [List.length_map])
     refine st ?_
     exact Exists.intro (rn [(2, 2)]) (WS.mk (Za (Zaf rfl (WE.refl _)) (Za (Zy (web (And.intro ZdC Zp6))) Zd)) Zc)
  obtain ⟨r0, hw⟩ := hw
  (conv => whnf)
  refine AWP.weak r0 hw ?_
  refine nw ?_
  refine Zp hF (fun ZcA hF => ?_) (fun ZcA hF => ?_)
  ·refine AWP.seq ?_
   refine ns ?_
   obtain rfl := Zg hF
   refine ns ?_
   refine Exists.intro [] ?_
   refine st ?_
   exact wx (WS.mk (Za (ZiJ (Zjs WE.nil (Zjs (WE.refl _) ZiN))) Zd) Zc)
  ·refine nw ?_
   refine AWP.seq ?_
   refine ns ?_
   obtain rfl := Zg hF
   refine ns ?_
   refine Exists.intro [] ?_
   refine st ?_
   exact wx (WS.mk (Za (ZiJ (Zjs (WE.refl _) (Zjs (WE.refl _) ZiN))) Zd) Zc)

def Zbw (v : Zb) : Option ((List Zb) × Bool) :=
 Zav ([]) v
def Zbw.M (v : Zb) (r : (List Zb) × Bool) : Prop :=
 Zj Tryd.prog 16 [.agg [.v (.int .i64 v.fOp), .v (.string v.fName), .v (.int .i64 v.fN), .sl (v.fKids.map Zb.cells), .v (.bool v.fSet.fAll), .sl (v.fSet.fList.map Ze.cells)]] [] (fun d b => d = .tup [.c (.sl (r.1.map Zb.cells)), .c (.v (.bool r.2))] ∧ b = [])
theorem Ziq (v : Zb) (r : (List Zb) × Bool) (hF : Zbw v = some r) : Zbw.M v r := by
 unfold Zbw at hF
 unfold Zbw.M
 refine en Tryd.func16 ?_
 refine AWP.seq ?_
 refine ns ?_
 refine AWP.seq ?_
 refine AWP.block ?_
 refine AWP.loop ?_
 refine AWL.weak (rn []) ?_ (ZgX ([]) v _ hF)
 exact (WS.mk (tp (Za Zl9 Zd)) (Zi rfl (cc (cc (cc (cc (cc (cc Zk)))))) Zc))

def Zap (b_5 : (List Int)) (r1 : ((List Zb) × Bool)) (Zf8 : Nat) (Zcj : (List Zb)) : Option (ByteArray × Bool) :=
 (match Zcj with
 | x39 :: ZlI =>
 if (((x39.fOp != 2) || (decide (x39.fN < 0))) || (decide (x39.fN > 255))) = true then
 some ((ByteArray.mk #[]), false)
 else
 ZaF ((b_5.length + ([(IntKind.u8.wrap x39.fN)]).length) * 1 ≤ 140737488355328) >>= fun _ =>
 Zap (b_5 ++ ([(IntKind.u8.wrap x39.fN)])) r1 (Zf8 + 1) ZlI
 | [] =>
 some (ZmN b_5, true))
 partial_fixpoint
def Zap.M (b_5 : (List Int)) (r1 : ((List Zb) × Bool)) (Zf8 : Nat) (Zcj : (List Zb)) (r : ByteArray × Bool) : Prop :=
 ∀ Zg2 : List Zb, r1.1 = Zg2 ++ Zcj → Zf8 = Zg2.length → r1.1.length ≤ maxLen → AWL Tryd.prog 46 (Code.sub (ZF Tryd.f19) [1, 1, 1, 1, 0, 1, 0, 0]) (Code.cont Tryd.prog 46 (ZF Tryd.f19) [1, 1, 1, 1, 0, 1, 0] (ZcP tab Tryd.f19.results (Zde (.tup [.c (.v (.string r.1)), .c (.v (.bool r.2))]) []))) ⟨[(5, .c (some (5, 5)) (.sl (b_5.map Zg9))), (18, .c none (.sl (r1.1.map Zb.cells))), (19, .c none (.v (.int .i64 ((r1.1.length : Nat) : Int)))), (20, .c none (.v (.int .i64 ((Zf8 : Nat) : Int))))], []⟩
theorem Zg3 (b_5 : (List Int)) (r1 : ((List Zb) × Bool)) (Zf8 : Nat) (Zcj : (List Zb)) : ∀ r, Zap b_5 r1 Zf8 Zcj = some r → Zap.M b_5 r1 Zf8 Zcj r := by
 refine Zap.partial_correctness r1 (fun b_5 Zf8 Zcj r => Zap.M b_5 r1 Zf8 Zcj r) ?_ b_5 Zf8 Zcj
 intro values_Text_l1' ZdP b_5 Zf8 Zcj r hF
 have ZgV := fun (b_5 : (List Int)) (_r1 : ((List Zb) × Bool)) (Zf8 : Nat) (Zcj : (List Zb)) => ZdP b_5 Zf8 Zcj
 clear ZdP
 unfold Zap.M
 intro Zg2 Zms ZmA hlen25
 refine AWL.step ?_
 refine AWP.seq ?_
 refine ns ?_
 refine AWP.seq ?_
 refine nw ?_
 refine Z6 Zms ZmA (fun x39 ZlI ZlZ Zqb ZpD => ?_) (fun ZlZ => ?_)
 ·subst ZlZ
  refine nw ?_
  refine AWP.seq ?_
  refine AWP.block ?_
  refine AWP.seq ?_
  refine nn ?_
  refine sr (ZaD (f := Zb.cells) (Zb.cells_eq x39) Zqb) ?_
  refine st ?_
  refine AWP.seq ?_
  refine AWP.seq ?_
  refine AWP.cutN (fun T => ∃ r, WS r T ⟨[(5, .c (some (5, 5)) (.sl (b_5.map Zg9))), (7, .ptr 7 0), (18, .c none (.sl (r1.1.map Zb.cells))), (19, .c none (.v (.int .i64 ((r1.1.length : Nat) : Int)))), (20, .c none (.v (.int .i64 ((Zf8 : Nat) : Int)))), (36, .c none (.v (.bool (((x39.fOp != 2) || (decide (x39.fN < 0))) || (decide (x39.fN > 255))))))], [(7, [(none, .v (.int .i64 x39.fOp)), (none, .v (.string x39.fName)), (none, .v (.int .i64 x39.fN)), (none, .sl (x39.fKids.map Zb.cells)), (none, .v (.bool x39.fSet.fAll)), (none, .sl (x39.fSet.fList.map Ze.cells))])]⟩) ?_ (fun T hw => ?_)
  ·refine ns ?_
   refine Zh false (fun Zc0 => ?_) (fun Zc0 => ?_)
   ·(conv => whnf)
    refine st ?_
    exact Exists.intro (rn [(5, 5)]) (WS.mk (Za (Zaf rfl (WE.refl _)) (tp (tc (tc (tc (Za (Zy (web Zc0)) Zd)))))) (Zi rfl (cc (cc (cc (cc (cc (cc Zk)))))) Zc))
   ·(conv => whnf)
    refine st ?_
    refine Zh false (fun Zjo => ?_) (fun Zjo => ?_)
    ·(conv => whnf)
     refine st ?_
     exact Exists.intro (rn [(5, 5)]) (WS.mk (Za (Zaf rfl (WE.refl _)) (tp (tc (tc (tc (Za (Zy (web (And.intro Zc0 Zjo))) Zd)))))) (Zi rfl (cc (cc (cc (cc (cc (cc Zk)))))) Zc))
    ·(conv => whnf)
     refine st ?_
     exact Exists.intro (rn [(5, 5)]) (WS.mk (Za (Zaf rfl (WE.refl _)) (tp (tc (tc (tc (Za (Zy (web (And.intro Zc0 Zjo))) Zd)))))) (Zi rfl (cc (cc (cc (cc (cc (cc Zk)))))) Zc))
  obtain ⟨r0, hw⟩ := hw
  (conv => whnf)
  refine AWP.weak r0 hw ?_
  refine nw ?_
  refine Zp hF (fun ZdR hF => ?_) (fun ZdR hF => ?_)
  ·refine AWP.seq ?_
   refine ns ?_
   obtain rfl := Zg hF
   refine ns ?_
   refine Exists.intro [] ?_
   refine st ?_
   exact wx (WS.mk (Za (ZiJ (Zjs (WE.refl _) (Zjs (WE.refl _) ZiN))) Zd) Zc)
  ·refine nw ?_
   obtain ⟨ZqR, hF⟩ := ZH hF
   refine ns ?_
   refine Exists.intro _ (And.intro (Zaz (f := Zg9) (lc Zm) (ZC (f := Zg9))) ?_)
   refine sa (fun l => ZaB l (fun x => ZlJ x)) ZqR ?_
   refine Exists.intro _ (And.intro (WE.refl _) ?_)
   rw [← List.map_append]
   refine st ?_
   refine ns ?_
   refine AWL.weak (rn [(42, 5)]) ?_ (ZgV (b_5 ++ ([(IntKind.u8.wrap x39.fN)])) r1 (Zf8 + 1) ZlI _ hF (Zg2 ++ [x39]) (by rw [Zms]; simp) (by rw [ZmA]; simp) hlen25)
   exact (WS.mk (Za (Zaf rfl (WE.refl _)) (tc (tc (Za (Zy (Zd2 (Zau hlen25 ZpD))) Zd)))) Zc)
 ·subst ZlZ
  refine nw ?_
  refine AWP.seq ?_
  refine ns ?_
  refine Exists.intro b_5 (And.intro rfl ?_)
  refine st ?_
  obtain rfl := Zg hF
  refine ns ?_
  refine Exists.intro [] ?_
  refine st ?_
  exact wx (WS.mk (Za (ZiJ (Zjs (WE.refl _) (Zjs (WE.refl _) ZiN))) Zd) Zc)

def Zbl (v : Zb) : Option (ByteArray × Bool) :=
 Zbw v >>= fun r1 =>
 if (!r1.2) = true then
 some ((ByteArray.mk #[]), false)
 else
 ZaF (0 ≤ ((r1.1.length : Nat) : Int) ∧ ((r1.1.length : Nat) : Int) ≤ (maxLen : Nat) ∧ (1 : Int) * ((r1.1.length : Nat) : Int) ≤ 281474976710656) >>= fun _ =>
 Zap ([] : List Int) r1 0 r1.1
def Zbl.M (v : Zb) (r : ByteArray × Bool) : Prop :=
 Zj Tryd.prog 19 [.agg [.v (.int .i64 v.fOp), .v (.string v.fName), .v (.int .i64 v.fN), .sl (v.fKids.map Zb.cells), .v (.bool v.fSet.fAll), .sl (v.fSet.fList.map Ze.cells)]] [] (fun d b => d = .tup [.c (.v (.string r.1)), .c (.v (.bool r.2))] ∧ b = [])
theorem Zir (v : Zb) (r : ByteArray × Bool) (hF : Zbl v = some r) : Zbl.M v r := by
 unfold Zbl at hF
 unfold Zbl.M
 refine en Tryd.func19 ?_
 refine AWP.seq ?_
 refine ns ?_
 refine AWP.seq ?_
 obtain ⟨r1, hr1, hF⟩ := bind_some hF
 refine ns ?_
 refine e3 ?_
 refine st ?_
 refine cm (Zj.weak (rn []) (Ziq v _ hr1) rfl (WS.mk (Za (Zo (lc (lc (lc (lc (lc (lc Zm))))))) Zd) Zc)) ?_
 refine st ?_
 refine AWP.seq ?_
 refine AWP.seq ?_
 refine ns ?_
 refine nw ?_
 refine Zp hF (fun hc3 hF => ?_) (fun hc3 hF => ?_)
 ·refine AWP.seq ?_
  refine ns ?_
  obtain rfl := Zg hF
  refine ns ?_
  refine Exists.intro [] ?_
  refine st ?_
  exact wx (WS.mk (Za (ZiJ (Zjs (WE.refl _) (Zjs (WE.refl _) ZiN))) Zd) Zc)
 ·refine nw ?_
  refine AWP.seq ?_
  obtain ⟨hg5, hF⟩ := ZH hF
  refine ns ?_
  intro hlen4
  (try rw [List.length_map] at hlen4)
  (try rw [List.length_map])
  refine s3 hg5.1 hg5.2.1 hg5.2.2 ?_
  refine st ?_
  refine AWP.seq ?_
  refine AWP.seq ?_
  refine ns ?_
  intro hlen25
  (try rw [List.length_map] at hlen25)
  (try rw [List.length_map])
  refine st ?_
  refine AWP.block ?_
  refine AWP.loop ?_
  refine AWL.weak (rn [(17, 5)]) ?_ (Zg3 ([] : List Int) r1 0 r1.1 _ hF ([]) rfl rfl hlen25)
  exact (WS.mk (Za (Zaf rfl (WE.refl _)) (tc (tc (tc Zd)))) Zc)

def ZR : Option (Bool) :=
 Zbl (Zb.mk 3 (ByteArray.mk #[58]) 0 ([(Zb.mk 2 (ByteArray.mk #[]) 97 ([] : List Zb) (Zf.mk false ([] : List Ze))), (Zb.mk 3 (ByteArray.mk #[91, 93]) 0 ([] : List Zb) (Zf.mk false ([] : List Ze)))]) (Zf.mk false ([] : List Ze))) >>= fun r1 =>
 Za1 (Zb.mk 3 (ByteArray.mk #[58]) 0 ([(Zb.mk 2 (ByteArray.mk #[]) 97 ([] : List Zb) (Zf.mk false ([] : List Ze))), (Zb.mk 3 (ByteArray.mk #[91, 93]) 0 ([] : List Zb) (Zf.mk false ([] : List Ze)))]) (Zf.mk false ([] : List Ze))) >>= fun r2 =>
 (if (((r2.toList == (ByteArray.mk #[40, 32, 58, 32, 35, 57, 55, 32, 91, 93, 32, 41]).toList) && (r1.1.toList == (ByteArray.mk #[97]).toList)) && r1.2) = true then Z3 (Zb.mk 3 (ByteArray.mk #[58]) 0 ([(Zb.mk 2 (ByteArray.mk #[]) 97 ([] : List Zb) (Zf.mk false ([] : List Ze))), (Zb.mk 3 (ByteArray.mk #[91, 93]) 0 ([] : List Zb) (Zf.mk false ([] : List Ze)))]) (Zf.mk false ([] : List Ze))) (Zb.mk 5 (ByteArray.mk #[]) 0 ([] : List Zb) (Zf.mk true ([] : List Ze))) >>= fun r3 =>
 some r3 else some false) >>= fun c4 =>
 (if c4 = true then Z3 (Zb.mk 5 (ByteArray.mk #[]) 0 ([] : List Zb) (Zf.mk true ([] : List Ze))) (Zb.mk 3 (ByteArray.mk #[58]) 0 ([(Zb.mk 2 (ByteArray.mk #[]) 97 ([] : List Zb) (Zf.mk false ([] : List Ze))), (Zb.mk 3 (ByteArray.mk #[91, 93]) 0 ([] : List Zb) (Zf.mk false ([] : List Ze)))]) (Zf.mk false ([] : List Ze))) >>= fun r5 =>
 some (!r5) else some false) >>= fun c6 =>
 some c6
def ZR.M (r : Bool) : Prop :=
 Zj Tryd.prog 12 [] [] (fun d b => d = .c none (.v (.bool r)) ∧ b = [])
theorem Zbc (r : Bool) (hF : ZR = some r) : ZR.M r := by
 unfold ZR at hF
 unfold ZR.M
 refine en Tryd.func12 ?_
 refine AWP.seq ?_
 refine ns ?_
 refine AWP.seq ?_
 refine ns ?_
 refine AWP.seq ?_
 refine ns ?_
 refine Exists.intro _ (And.intro (Zaz (f := Zb.cells) (ZhE (Zb.cells_eq (Zb.mk 2 (ByteArray.mk #[]) 97 ([] : List Zb) (Zf.mk false ([] : List Ze)))) (lc (lc (lc (ZbH WE.nil (lc (ZbH WE.nil Zm))))))) (Zaz (f := Zb.cells) (ZhE (Zb.cells_eq (Zb.mk 3 (ByteArray.mk #[91, 93]) 0 ([] : List Zb) (Zf.mk false ([] : List Ze)))) (lc (lc (lc (ZbH WE.nil (lc (ZbH WE.nil Zm))))))) (ZC (f := Zb.cells)))) ?_)
 refine st ?_
 refine AWP.seq ?_
 obtain ⟨r1, hr1, hF⟩ := bind_some hF
 refine ns ?_
 refine e3 ?_
 refine st ?_
 refine cm (Zj.weak (rn []) (Zir (Zb.mk 3 (ByteArray.mk #[58]) 0 ([(Zb.mk 2 (ByteArray.mk #[]) 97 ([] : List Zb) (Zf.mk false ([] : List Ze))), (Zb.mk 3 (ByteArray.mk #[91, 93]) 0 ([] : List Zb) (Zf.mk false ([] : List Ze)))]) (Zf.mk false ([] : List Ze))) _ hr1) rfl (WS.mk (Za (Zo (lc (lc (lc (lc (lc (ZbH WE.nil Zm))))))) Zd) Zc)) ?_
 refine st ?_
 refine AWP.seq ?_
 refine ns ?_
 refine AWP.seq ?_
 obtain ⟨r2, hr2, hF⟩ := bind_some hF
 obtain ⟨c4, hc4, hF⟩ := bind_some hF
 obtain ⟨c6, hc6, hF⟩ := bind_some hF
 refine AWP.cutN (fun T => ∃ r, WS r T ⟨[(0, .c none (.v (.bool c6)))], []⟩) ?_ (fun T hw => ?_)
 ·refine ns ?_
  refine e3 ?_
  refine st ?_
  refine cm (Zj.weak (rn []) (ZhR (Zb.mk 3 (ByteArray.mk #[58]) 0 ([(Zb.mk 2 (ByteArray.mk #[]) 97 ([] : List Zb) (Zf.mk false ([] : List Ze))), (Zb.mk 3 (ByteArray.mk #[91, 93]) 0 ([] : List Zb) (Zf.mk false ([] : List Ze)))]) (Zf.mk false ([] : List Ze))) _ hr2) rfl (WS.mk (Za (Zo (lc (lc (lc (lc (lc (ZbH WE.nil Zm))))))) Zd) Zc)) ?_
  refine st ?_
  refine Zh true (fun hc7 => ?_) (fun hc7 => ?_)
  ·(conv => whnf)
   refine st ?_
   refine Zh true (fun hc8 => ?_) (fun hc8 => ?_)
   ·(conv => whnf)
    refine st ?_
    refine Zh true (fun hc9 => ?_) (fun hc9 => ?_)
    ·have hc4 := ift (And.intro hc7 (And.intro hc8 hc9)) hc4
     obtain ⟨r3, hr3, hc4⟩ := bind_some hc4
     (conv => whnf)
     refine st ?_
     refine e3 ?_
     refine st ?_
     refine cm (Zj.weak (rn []) (Zd5 (Zb.mk 3 (ByteArray.mk #[58]) 0 ([(Zb.mk 2 (ByteArray.mk #[]) 97 ([] : List Zb) (Zf.mk false ([] : List Ze))), (Zb.mk 3 (ByteArray.mk #[91, 93]) 0 ([] : List Zb) (Zf.mk false ([] : List Ze)))]) (Zf.mk false ([] : List Ze))) (Zb.mk 5 (ByteArray.mk #[]) 0 ([] : List Zb) (Zf.mk true ([] : List Ze))) _ hr3) rfl (WS.mk (Za (Zo (lc (lc (lc (lc (lc (ZbH WE.nil Zm))))))) (Za (Zo (lc (lc (lc (ZbH WE.nil (lc (ZbH WE.nil Zm))))))) Zd)) Zc)) ?_
     refine st ?_
     obtain rfl := Zg hc4
     refine st ?_
     refine Zh true (fun ZaK => ?_) (fun ZaK => ?_)
     ·have hc6 := ift (And.intro hc7 (And.intro hc8 (And.intro hc9 ZaK))) hc6
      obtain ⟨r5, hr5, hc6⟩ := bind_some hc6
      (conv => whnf)
      refine st ?_
      refine e3 ?_
      refine st ?_
      refine cm (Zj.weak (rn []) (Zd5 (Zb.mk 5 (ByteArray.mk #[]) 0 ([] : List Zb) (Zf.mk true ([] : List Ze))) (Zb.mk 3 (ByteArray.mk #[58]) 0 ([(Zb.mk 2 (ByteArray.mk #[]) 97 ([] : List Zb) (Zf.mk false ([] : List Ze))), (Zb.mk 3 (ByteArray.mk #[91, 93]) 0 ([] : List Zb) (Zf.mk false ([] : List Ze)))]) (Zf.mk false ([] : List Ze))) _ hr5) rfl (WS.mk (Za (Zo (lc (lc (lc (ZbH WE.nil (lc (ZbH WE.nil Zm))))))) (Za (Zo (lc (lc (lc (lc (lc (ZbH WE.nil Zm))))))) Zd)) Zc)) ?_
      refine st ?_
      obtain rfl := Zg hc6
      refine st ?_
      exact wx (WS.mk (Za (Zy (web (And.intro hc7 (And.intro hc8 (And.intro hc9 ZaK))))) Zd) Zc)
     ·have hc6 := ife (And.intro hc7 (And.intro hc8 (And.intro hc9 ZaK))) hc6
      (conv => whnf)
      obtain rfl := Zg hc6
      refine st ?_
      exact wx (WS.mk (Za (Zy (web (And.intro hc7 (And.intro hc8 (And.intro hc9 ZaK))))) Zd) Zc)
    ·have hc4 := ife (And.intro hc7 (And.intro hc8 hc9)) hc4
     (conv => whnf)
     obtain rfl := Zg hc4
     have hc6 := ife (And.intro hc7 (And.intro hc8 hc9)) hc6
     obtain rfl := Zg hc6
     refine st ?_
     exact wx (WS.mk (Za (Zy (web (And.intro hc7 (And.intro hc8 hc9)))) Zd) Zc)
   ·(conv => whnf)
    have hc4 := ife (And.intro hc7 hc8) hc4
    obtain rfl := Zg hc4
    have hc6 := ife (And.intro hc7 hc8) hc6
    obtain rfl := Zg hc6
    refine st ?_
    exact wx (WS.mk (Za (Zy (web (And.intro hc7 hc8))) Zd) Zc)
  ·(conv => whnf)
   have hc4 := ife hc7 hc4
   obtain rfl := Zg hc4
   have hc6 := ife hc7 hc6
   obtain rfl := Zg hc6
   refine st ?_
   exact wx (WS.mk (Za (Zy (web hc7)) Zd) Zc)
 obtain ⟨r0, hw⟩ := hw
 (conv => whnf)
 refine AWP.weak r0 hw ?_
 obtain rfl := Zg hF
 refine ns ?_
 refine Exists.intro [] ?_
 refine st ?_
 exact wx (WS.mk (tc Zd) Zc)

set_option maxHeartbeats 8000000
def exA : Zb := Zb.mk 2 (ByteArray.mk #[]) 97 [] (Zf.mk false [])
def exN : Zb := Zb.mk 3 (ByteArray.mk #[91, 93]) 0 [] (Zf.mk false [])
def exV : Zb := Zb.mk 3 (ByteArray.mk #[58]) 0 [exA, exN] (Zf.mk false [])
theorem ZrP {α : Type} (x : α) (l : List α) : ixI (x :: l) 0 = some x := rfl
theorem Zq4 {α : Type} (x y : α) (l : List α) : ixI (x :: y :: l) 1 = some y := rfl
theorem Zoi : Zaq exA = some exA := by
 rw [Zaq, ZaQ]
 rw [show exA.fSet.fList = [] from rfl, show exA.fKids = [] from rfl]
 rw [ZcD _ (by decide +kernel), Z5, Zai]; rfl
theorem Zpx : Zbw exV = some ([exA], true) := by
 rw [Zbw, Zav, if_pos (by decide +kernel), show exV.fKids = [exA, exN] from rfl, ZrP, Z5, Zoi, Z5, ZcD _ (by decide +kernel), Zq4, Z5, Zav, if_neg (by decide +kernel), if_neg (by decide +kernel)]; rfl
theorem Zp1 : Zbl exV = some (ByteArray.mk #[97], true) := by
 rw [Zbl, Zpx, Z5, if_neg (by decide +kernel), ZcD _ (by decide +kernel)]
 show Zap [] _ 0 [exA] = _
 rw [Zap]
 show (if _ then _ else _) = _
 rw [if_neg (by decide +kernel), ZcD _ (by decide +kernel), Zap]
 rfl
theorem Zok : Z8 exA = some 1 := by rw [Z8, show exA.fKids = [] from rfl, ZQ]; rfl
theorem ZnT : Z8 exN = some 1 := by rw [Z8, show exN.fKids = [] from rfl, ZQ]; rfl
theorem Zpb : Z8 exV = some 2 := by
 rw [Z8, show exV.fKids = [exA, exN] from rfl, ZQ]
 simp only [Zok, Z5]
 rw [ZQ]
 simp only [ZnT, Z5]
 rw [ZQ]; rfl
theorem ZoV : Zaj exA = some 1 := by rw [Zaj, show exA.fKids = [] from rfl, Z1]
theorem ZoN : Zaj exN = some 1 := by rw [Zaj, show exN.fKids = [] from rfl, Z1]
theorem Zpt : Zaj exV = some 3 := by
 rw [Zaj, show exV.fKids = [exA, exN] from rfl, Z1]
 simp only [ZoV, Z5]
 rw [Z1]
 simp only [ZoN, Z5]
 rw [Z1]; rfl
theorem Zke : Zbi (Zf.mk false []) = some true := by rw [Zbi]; rfl
theorem con_ok (s : ByteArray) : True := trivial
theorem Zpn : ZS (ByteArray.mk #[58]) = some true := by
 rw [ZS]
 rw [if_neg (by decide +kernel), Zv, if_pos (by decide +kernel)]
 rw [show btI (ByteArray.mk #[58]) ((0 : Nat) : Int) = some 58 from by decide +kernel]
 simp only [Z5]
 rw [if_neg (by decide +kernel)]
 simp only [Z5]
 rw [if_neg (by decide +kernel), ZcD _ (by decide +kernel), Zv, if_neg (by decide +kernel)]
 rw [show btI (ByteArray.mk #[58]) 0 = some 58 from by decide +kernel]
 decide +kernel
theorem ZpG : ZS (ByteArray.mk #[91, 93]) = some true := by
 rw [ZS]
 rw [if_neg (by decide +kernel), Zv, if_pos (by decide +kernel)]
 rw [show btI (ByteArray.mk #[91, 93]) ((0 : Nat) : Int) = some 91 from by decide +kernel]
 simp only [Z5]
 rw [if_neg (by decide +kernel)]
 simp only [Z5]
 rw [if_neg (by decide +kernel), ZcD _ (by decide +kernel), Zv, if_pos (by decide +kernel)]
 rw [show btI (ByteArray.mk #[91, 93]) ((0 + 1 : Nat) : Int) = some 93 from by decide +kernel]
 simp only [Z5]
 rw [if_neg (by decide +kernel)]
 simp only [Z5]
 rw [if_neg (by decide +kernel), ZcD _ (by decide +kernel), Zv, if_neg (by decide +kernel)]
 rw [show btI (ByteArray.mk #[91, 93]) 0 = some 91 from by decide +kernel]
 decide +kernel
theorem Zns : ZV exA = some true := by
 rw [ZV, show exA.fSet = Zf.mk false [] from rfl, Zke, if_neg (by decide +kernel), if_pos (by decide +kernel)]
 simp only [Z5]
 rw [if_neg (by decide +kernel), if_neg (by decide +kernel), if_neg (by decide +kernel), ZP, if_neg (by decide +kernel), if_pos (by decide +kernel)]
 decide +kernel
theorem Znf : ZV exN = some true := by
 rw [ZV, show exN.fSet = Zf.mk false [] from rfl, Zke, if_neg (by decide +kernel), if_pos (by decide +kernel)]
 simp only [Z5]
 rw [if_neg (by decide +kernel), if_neg (by decide +kernel), if_neg (by decide +kernel), ZP, if_neg (by decide +kernel), if_neg (by decide +kernel), if_neg (by decide +kernel), if_pos (by decide +kernel)]
 rw [show exN.fKids = [] from rfl, ZO, show exN.fName = ByteArray.mk #[91, 93] from rfl, ZpG]; rfl
theorem Znw : ZV exV = some true := by
 rw [ZV, show exV.fSet = Zf.mk false [] from rfl, Zke, if_neg (by decide +kernel), if_pos (by decide +kernel)]
 simp only [Z5]
 rw [if_neg (by decide +kernel), if_neg (by decide +kernel), if_neg (by decide +kernel), ZP, if_neg (by decide +kernel), if_neg (by decide +kernel), if_neg (by decide +kernel), if_pos (by decide +kernel)]
 rw [show exV.fKids = [exA, exN] from rfl, ZO]
 simp only [Zns, Z5]
 rw [if_neg (by decide +kernel), ZO]
 simp only [Znf, Z5]
 rw [if_neg (by decide +kernel), ZO, show exV.fName = ByteArray.mk #[58] from rfl, Zpn]; rfl
theorem Zo9 : Zbm exV = some 0 := by
 rw [Zbm, Zpb, Z5, if_neg (by decide +kernel), Zpt, Z5, if_neg (by decide +kernel), Znw, Z5, if_neg (by decide +kernel)]
theorem Zo2 : Zam [] exV = some [ByteArray.mk #[40], ByteArray.mk #[58], ByteArray.mk #[35, 57, 55], ByteArray.mk #[91, 93], ByteArray.mk #[41]] := by
 rw [Zam, if_neg (by decide +kernel), if_neg (by decide +kernel), if_neg (by decide +kernel), if_neg (by decide +kernel), if_neg (by decide +kernel), if_neg (by decide +kernel), ZcD _ (by decide +kernel)]
 rw [show exV.fKids = [exA, exN] from rfl, Z9]
 rw [Zam, if_neg (by decide +kernel), if_pos (by decide +kernel), show strconv_Itoa exA.fN = some (ByteArray.mk #[57, 55]) from by decide +kernel, Z5, ZcD _ (by decide +kernel), ZcD _ (by decide +kernel), Z5, Z9]
 rw [Zam, if_neg (by decide +kernel), if_neg (by decide +kernel), if_neg (by decide +kernel), if_neg (by decide +kernel), if_neg (by decide +kernel), if_pos (by decide +kernel), ZcD _ (by decide +kernel), Z5, Z9, ZcD _ (by decide +kernel)]
 rfl
theorem Zo3 : Za1 exV = some (ByteArray.mk #[40, 32, 58, 32, 35, 57, 55, 32, 91, 93, 32, 41]) := by
 rw [Za1, Zo9, Z5, if_neg (by decide +kernel), Zo2, Z5, strings_Join, if_pos (by decide +kernel)]
 decide +kernel
theorem Zgu : ZR = some true := by
 rw [ZR]
 show (Zbl exV >>= fun r1 => Za1 exV >>= fun r2 => _) = _
 rw [Zp1, Z5, Zo3, Z5, if_pos (by decide +kernel)]
 simp only [Zl1, Z5]
 decide +kernel

def Zbb : Option (Zf) :=
 some (Zf.mk true ([] : List Ze))
def Zbb.M (r : Zf) : Prop :=
 Zj Tryd.prog 29 [] [] (fun d b => d = .agg [.v (.bool r.fAll), .sl (r.fList.map Ze.cells)] ∧ b = [])
theorem Zek (r : Zf) (hF : Zbb = some r) : Zbb.M r := by
 unfold Zbb at hF
 unfold Zbb.M
 refine en Tryd.func29 ?_
 refine AWP.seq ?_
 refine ns ?_
 refine AWP.seq ?_
 refine ns ?_
 obtain rfl := Zg hF
 refine ns ?_
 refine Exists.intro [] ?_
 refine st ?_
 exact wx (WS.mk (Za (Zo (lc (ZbH WE.nil Zm))) Zd) Zc)

end Go.Proofs.YtafniolcakiljaaDoor
