/- Part 7 of the proof: the program's functions as Lean functions with their walks, and the plain law. It holds for every input, without conditions. -/
import Derived.Lib.LaidTab
import Derived.Lib.ItoaNum
import Derived.KernelRfl
import Derived.Stop.LaidErr
import Derived.Test.YtgbglhbdjambbaaGreatDoorRows
import Derived.Test.YtgbglhbdjambbaaGreatDoorUgA
import Derived.Test.YtgbglhbdjambbaaGreatDoorUgB
import Derived.Test.YtgbglhbdjambbaaGreatDoorUgC
import Derived.Test.YtgbglhbdjambbaaGreatDoorUgD
import Derived.Test.YtgbglhbdjambbaaGreatDoorUgE
import Derived.Test.YtgbglhbdjambbaaGreatDoorUgF
set_option linter.unusedVariables false
set_option linter.unusedSimpArgs false
set_option maxRecDepth 100000
set_option maxHeartbeats 4000000
namespace Go.Proofs.YtgbglhbdjambbaaGreatDoor
open Go Go.Am
theorem Zm {α β : Type} (x : α) (f : α → Option β) : (some x >>= f) = f x := rfl
theorem Zc0 {p : Prop} [Decidable p] {β : Type} (f : Unit → Option β) (h : p) : (ZK p >>= f) = f () := by unfold ZK; rw [if_pos h]; rfl
theorem Ze5 {a b : ByteArray} (h : a.data.toList = b.data.toList) : a = b := by
 obtain ⟨⟨l⟩⟩ := a; obtain ⟨⟨k⟩⟩ := b
 simp only at h; rw [h]
theorem ZaY (s : ByteArray) : s.toList = s.data.toList := by
 have key : ∀ (n i : Nat) (r : List UInt8), s.size - i = n → ByteArray.toList.loop s i r = r.reverse ++ s.data.toList.drop i := by
  intro n
  induction n with
  | zero =>
   intro i r h
   rw [ByteArray.toList.loop, if_neg (by omega), List.drop_eq_nil_of_le (by show s.data.toList.length ≤ i; simp; have : s.data.size = s.size := rfl; omega), List.append_nil]
  | succ n ih =>
   intro i r h
   have hi : i < s.size := by omega
   rw [ByteArray.toList.loop, if_pos hi, ih (i + 1) _ (by omega)]
   have hd : s.data.toList.drop i = s.data.toList[i]'(by simpa using hi) :: s.data.toList.drop (i + 1) := (List.drop_eq_getElem_cons (by simpa using hi))
   rw [hd]
   have : s.get! i = s.data.toList[i]'(by simpa using hi) := by
    have hi' : i < s.data.size := hi
    show s.data[i]! = _
    rw [getElem!_pos s.data i hi']; simp
   rw [this]; simp
 show ByteArray.toList.loop s 0 [] = _
 rw [key _ 0 [] rfl]; simp
theorem Zd5 (s : ByteArray) (k : Nat) : btI s ((k : Nat) : Int) = s.data.toList[k]? := by
 unfold btI
 rw [if_pos (Int.natCast_nonneg k), Int.toNat_natCast]
 rcases Nat.lt_or_ge k s.size with h | h
 ·rw [getElem?_pos s k h, List.getElem?_eq_getElem (by simpa using h)]; rfl
 ·rw [getElem?_neg s k (by omega), List.getElem?_eq_none (by simpa using h)]
theorem sz (s : ByteArray) : s.data.toList.length = s.size := by simp
def ZhG (c : UInt8) : Bool := decide (65 ≤ c.toNat) && decide (c.toNat ≤ 90)
def Zg4 (c : UInt8) : Bool := decide (97 ≤ c.toNat) && decide (c.toNat ≤ 122)
def Zgf (c : UInt8) : Bool := decide (48 ≤ c.toNat) && decide (c.toNat ≤ 57)
def wst (c : UInt8) : Bool := ZhG c || Zg4 c || c.toNat == 95
def wch (c : UInt8) : Bool := wst c || Zgf c || c.toNat == 39
def ZtS : List UInt8 := [33, 35, 36, 37, 38, 42, 43, 46, 47, 60, 61, 62, 63, 64, 92, 94, 124, 45, 126, 58]
def Ztn (c : UInt8) : Bool := ZtS.contains c
theorem ZCg (c : UInt8) : ZdW ((c.toNat : Nat) : Int) = some (ZhG c) := by
 unfold ZdW ZhG; congr 2 <;> (apply decide_eq_decide.2; omega)
theorem ZB9 (c : UInt8) : Zb7 ((c.toNat : Nat) : Int) = some (ZhG c) := by
 unfold Zb7 ZhG; congr 2 <;> (apply decide_eq_decide.2; omega)
theorem ZEP (c : UInt8) : ZeM ((c.toNat : Nat) : Int) = some (Zgf c) := by
 unfold ZeM Zgf; congr 2 <;> (apply decide_eq_decide.2; omega)
theorem ZBU (c : UInt8) : ZcA ((c.toNat : Nat) : Int) = some (Zgf c) := by
 unfold ZcA Zgf; congr 2 <;> (apply decide_eq_decide.2; omega)
theorem Zdt (a b : Nat) : (((a : Nat) : Int) == ((b : Nat) : Int)) = (a == b) := by
 rw [Bool.eq_iff_iff]; simp; omega
theorem ZBS (c : UInt8) : ZdT ((c.toNat : Nat) : Int) = some (ZhG c || Zg4 c) := by
 unfold ZdT
 rw [ZCg, Zm]
 unfold Zg4
 congr 3 <;> (apply decide_eq_decide.2; omega)
theorem ZBI (c : UInt8) : ZcG ((c.toNat : Nat) : Int) = some (Zg4 c || c.toNat == 95) := by
 unfold ZcG Zg4
 rw [show (95 : Int) = ((95 : Nat) : Int) from rfl, Zdt]
 congr 3 <;> (apply decide_eq_decide.2; omega)
theorem Ziv {l : List UInt8} {k : Nat} {y : UInt8} (h : l[k]? = some y) : l.drop k = y :: l.drop (k + 1) := by
 obtain ⟨h1, h2⟩ := List.getElem?_eq_some_iff.1 h
 rw [List.drop_eq_getElem_cons h1, h2]
theorem ZyX (s : ByteArray) (hs : s.size ≤ 1000000) : ∀ (d k : Nat), s.size - k = d → ZcR s k = some ((s.data.toList.drop k).all wch) := by
 intro d
 induction d with
 | zero =>
  intro k hk
  rw [ZcR, if_neg (by simp; omega), List.drop_eq_nil_of_le (by rw [sz]; omega)]; rfl
 | succ d ih =>
  intro k hk
  have hlt : k < s.size := by omega
  obtain ⟨y, hy⟩ : ∃ y, s.data.toList[k]? = some y := ⟨_, List.getElem?_eq_getElem (by rw [sz]; exact hlt)⟩
  rw [ZcR, if_pos (by simpa using hlt), Zd5, hy, Zm, ZBS, Zm, ZEP, Ziv hy, List.all_cons]
  have h1 : (if (!(ZhG y || Zg4 y)) = true then some (Zgf y) >>= fun r35 => some (!r35) else some false) = some (!(ZhG y || Zg4 y) && !(Zgf y)) := by
   cases (ZhG y || Zg4 y) <;> rfl
  rw [h1, Zm]
  have h2 : ((((!(ZhG y || Zg4 y) && !(Zgf y)) && (((y.toNat : Nat) : Int) != 95)) && (((y.toNat : Nat) : Int) != 39)) = true) ↔ wch y = false := by
   unfold wch wst
   rw [show (((y.toNat : Nat) : Int) != 95) = !(y.toNat == 95) from by rw [bne, show (95 : Int) = ((95 : Nat) : Int) from rfl, Zdt], show (((y.toNat : Nat) : Int) != 39) = !(y.toNat == 39) from by rw [bne, show (39 : Int) = ((39 : Nat) : Int) from rfl, Zdt]]
   cases ZhG y <;> cases Zg4 y <;> cases Zgf y <;> cases (y.toNat == 95) <;> cases (y.toNat == 39) <;> simp
  by_cases hw : wch y = false
  ·rw [if_pos (h2.2 hw), hw]; rfl
  ·rw [if_neg (fun h => hw (h2.1 h)), Zc0 _ (by omega), ih (k + 1) (by omega)]
   simp only [Bool.not_eq_false] at hw
   rw [hw]; rfl
def Zhp (l : List UInt8) : Bool := match l with
 | [] => false
 | c :: r => decide (r.length < 64) && wst c && l.all wch
theorem Zhz (c : UInt8) (r : List UInt8) : Zhp (c :: r) = (decide (r.length < 64) && wst c && (c :: r).all wch) := rfl
theorem Zmn (s : ByteArray) : (s.toList == (ByteArray.mk #[]).toList) = decide (s.size = 0) := by
 rw [Bool.eq_iff_iff]
 rw [beq_iff_eq, ZaY, ZaY, decide_eq_true_iff, ← sz]
 constructor
 ·intro h; rw [h]; rfl
 ·intro h; exact List.eq_nil_of_length_eq_zero h
theorem ZvO (s : ByteArray) : Zd4 s = some (Zhp s.data.toList) := by
 unfold Zd4
 rw [Zmn]
 cases hl : s.data.toList with
 | nil =>
  have h0 : s.size = 0 := by rw [← sz, hl]; rfl
  rw [if_pos (by simp [h0])]; rfl
 | cons c r =>
  have h0 : s.size = r.length + 1 := by rw [← sz, hl]; rfl
  by_cases h64 : s.size > 64
  ·rw [if_pos (by simp; omega), Zm, if_pos rfl]
   rw [Zhz, show decide (r.length < 64) = false from decide_eq_false (by omega)]; rfl
  ·have hc : ¬ ((decide (s.size = 0) || decide (((s.size : Nat) : Int) > 64)) = true) := by rw [Bool.or_eq_true, decide_eq_true_iff, decide_eq_true_iff]; omega
   rw [if_neg hc]
   have hb : btI s 0 = some c := by have := Zd5 s 0; rw [hl] at this; exact this
   rw [hb]
   simp only [Zm, ZBS]
   rw [show (((c.toNat : Nat) : Int) != 95) = !(c.toNat == 95) from by rw [bne, show (95 : Int) = ((95 : Nat) : Int) from rfl, Zdt]]
   rw [Zhz, show decide (r.length < 64) = true from decide_eq_true (by omega)]
   cases hw : wst c with
   | false =>
    unfold wst at hw
    cases h1 : (ZhG c || Zg4 c) <;> rw [h1] at hw <;> simp_all
   | true =>
    have : (if (!(ZhG c || Zg4 c)) = true then some (!(c.toNat == 95)) else some false) = some false := by
     unfold wst at hw
     cases h1 : (ZhG c || Zg4 c) <;> rw [h1] at hw <;> simp_all
    rw [this, Zm, Zm, if_neg (by simp)]
    rw [ZyX s (by omega) _ 0 rfl, List.drop_zero, hl]; rfl
theorem ZgE {s : ByteArray} (h : Zhp s.data.toList = true) : 0 < s.size ∧ s.size ≤ 64 := by
 rw [← sz]
 cases hl : s.data.toList with
 | nil => rw [hl] at h; cases h
 | cons c r =>
  rw [hl, Zhz, Bool.and_eq_true, Bool.and_eq_true, decide_eq_true_iff] at h
  simp only [List.length_cons]; omega
theorem ZyO (s : ByteArray) (hs : s.size ≤ 1000000) : ∀ (d k : Nat), s.size - k = d → Zbh s k = some ((s.data.toList.drop k).all wch) := by
 intro d
 induction d with
 | zero =>
  intro k hk
  rw [Zbh, if_neg (by simp; omega), List.drop_eq_nil_of_le (by rw [sz]; omega)]; rfl
 | succ d ih =>
  intro k hk
  have hlt : k < s.size := by omega
  obtain ⟨y, hy⟩ : ∃ y, s.data.toList[k]? = some y := ⟨_, List.getElem?_eq_getElem (by rw [sz]; exact hlt)⟩
  rw [Zbh, if_pos (by simpa using hlt), Zd5, hy]
  simp only [Zm, ZBI, ZB9, ZBU, Ziv hy, List.all_cons]
  rw [show (((y.toNat : Nat) : Int) != 39) = !(y.toNat == 39) from by rw [bne, show (39 : Int) = ((39 : Nat) : Int) from rfl, Zdt]]
  have h1 : ((if (!(Zg4 y || y.toNat == 95)) = true then some (!ZhG y) else some false) >>= fun c51 =>
    (if c51 = true then some (!Zgf y) else some false) >>= fun c54 => (if c54 = true then some (!(y.toNat == 39)) else some false)) = some (!wch y) := by
   unfold wch wst
   cases ZhG y <;> cases Zg4 y <;> cases Zgf y <;> cases (y.toNat == 95) <;> cases (y.toNat == 39) <;> rfl
  have h2 : ∀ (f : Bool → Option Bool), ((if (!(Zg4 y || y.toNat == 95)) = true then some (!ZhG y) else some false) >>= fun c51 =>
    (if c51 = true then some (!Zgf y) else some false) >>= fun c54 => (if c54 = true then some (!(y.toNat == 39)) else some false) >>= f) = f (!wch y) := fun f => by
   unfold wch wst
   cases ZhG y <;> cases Zg4 y <;> cases Zgf y <;> cases (y.toNat == 95) <;> cases (y.toNat == 39) <;> rfl
  rw [h2]
  cases hw : wch y with
  | false => rfl
  | true =>
   simp only [Bool.not_true, Bool.false_eq_true, if_false, Bool.true_and]
   rw [Zc0 _ (by omega), ih (k + 1) (by omega)]
theorem ZDg (s : ByteArray) : Zde s = some (Zhp s.data.toList) := by
 unfold Zde
 cases hl : s.data.toList with
 | nil =>
  have h0 : s.size = 0 := by rw [← sz, hl]; rfl
  rw [if_pos (by simp [h0])]; rfl
 | cons c r =>
  have h0 : s.size = r.length + 1 := by rw [← sz, hl]; rfl
  by_cases h64 : s.size > 64
  ·rw [if_pos (by simp; omega), Zm, if_pos rfl]
   rw [Zhz, show decide (r.length < 64) = false from decide_eq_false (by omega)]; rfl
  ·rw [if_neg (by simp; omega)]
   have hb : btI s 0 = some c := by have := Zd5 s 0; rw [hl] at this; exact this
   rw [hb]
   simp only [Zm, ZBI, ZB9]
   rw [Zhz, show decide (r.length < 64) = true from decide_eq_true (by omega)]
   have h2 : ((if (!(Zg4 c || c.toNat == 95)) = true then some (!ZhG c) else some false) >>= fun c12 => some c12) = some (!wst c) := by
    unfold wst
    cases ZhG c <;> cases Zg4 c <;> cases (c.toNat == 95) <;> rfl
   rw [h2, Zm]
   cases hw : wst c with
   | false => rfl
   | true =>
    simp only [Bool.not_true, Bool.false_eq_true, if_false]
    rw [ZyO s (by omega) _ 0 rfl, List.drop_zero, hl]; rfl
theorem Zov : ∀ (l : List UInt8) (c : UInt8), decide (Lib.indexByte l c ≥ 0) = l.contains c ∧ -1 ≤ Lib.indexByte l c
 | [], c => by simp [Lib.indexByte]
 | b :: l, c => by
  obtain ⟨h1, h2⟩ := Zov l c
  unfold Lib.indexByte
  by_cases hb : b == c
  ·rw [if_pos hb]
   have : c = b := (beq_iff_eq.1 hb).symm
   subst this
   simp
  ·rw [if_neg hb]
   have hc : ¬ c = b := fun e => hb (by simp [e])
   have hcon : (b :: l).contains c = l.contains c := by simp [hc]
   rw [hcon, ← h1]
   split
   ·rename_i h3
    have : Lib.indexByte l c = -1 := by simpa using h3
    rw [this]; simp
   ·rename_i h3
    have h4 : ¬ Lib.indexByte l c = -1 := by simpa using h3
    constructor
    ·apply decide_eq_decide.2; omega
    ·omega
theorem ZB6 (c : UInt8) : ZdA ((c.toNat : Nat) : Int) = some (Ztn c) := by
 unfold ZdA strings_IndexByte
 rw [Zm]
 have h1 : ((c.toNat : Nat) : Int).toNat.toUInt8 = c := by rw [Int.toNat_natCast]; simp
 rw [h1, (Zov _ c).1]
 rfl
theorem ZyC (c : Int) (i_4 : Nat) : Z0 c i_4 = if (decide (((i_4 : Nat) : Int) < (((ByteArray.mk #[33, 35, 36, 37, 38, 42, 43, 46, 47, 60, 61, 62, 63, 64, 92, 94, 124, 45, 126, 58]).size : Nat) : Int))) = true then
  (btI (ByteArray.mk #[33, 35, 36, 37, 38, 42, 43, 46, 47, 60, 61, 62, 63, 64, 92, 94, 124, 45, 126, 58]) ((i_4 : Nat) : Int)) >>= fun y12 =>
  if (((y12.toNat : Nat) : Int) == c) = true then some true
  else ZK (i_4 + 1 ≤ 9223372036854775807) >>= fun _ => Z0 c (i_4 + 1)
  else some false := by
 delta Z0
 exact congrFun (Lean.Order.fix_eq _) i_4
theorem ZuZ (c : UInt8) (k : Nat) : Z0 ((c.toNat : Nat) : Int) k = if k < 20 then (ZtS[k]? >>= fun y => if y.toNat == c.toNat then some true else (ZK (k + 1 ≤ 9223372036854775807) >>= fun _ => Z0 ((c.toNat : Nat) : Int) (k + 1))) else some false := by
 have hs : (ByteArray.mk #[33, 35, 36, 37, 38, 42, 43, 46, 47, 60, 61, 62, 63, 64, 92, 94, 124, 45, 126, 58]).size = 20 := rfl
 have hl : (ByteArray.mk #[33, 35, 36, 37, 38, 42, 43, 46, 47, 60, 61, 62, 63, 64, 92, 94, 124, 45, 126, 58]).data.toList = ZtS := rfl
 have hb := Zd5 (ByteArray.mk #[33, 35, 36, 37, 38, 42, 43, 46, 47, 60, 61, 62, 63, 64, 92, 94, 124, 45, 126, 58]) k
 rw [hl] at hb
 rw [ZyC, hb, hs]
 generalize ZtS[k]? = o
 by_cases h : k < 20
 ·rw [if_pos h, if_pos (decide_eq_true (by omega))]
  cases o with
  | none => rfl
  | some y => simp only [Zm, Zdt]
 ·rw [if_neg h, if_neg (by rw [decide_eq_true_iff]; omega)]
theorem ZtU : ZtS.length = 20 := rfl
theorem Zze (c : UInt8) : ∀ (d k : Nat), 20 - k = d → Z0 ((c.toNat : Nat) : Int) k = some ((ZtS.drop k).contains c) := by
 intro d
 induction d with
 | zero =>
  intro k hk
  rw [ZuZ, if_neg (by omega), List.drop_eq_nil_of_le (by rw [ZtU]; omega)]; rfl
 | succ d ih =>
  intro k hk
  obtain ⟨y, hy⟩ : ∃ y, ZtS[k]? = some y := ⟨_, List.getElem?_eq_getElem (by rw [ZtU]; omega)⟩
  rw [ZuZ, if_pos (by omega), hy, Zm, Ziv hy]
  by_cases he : y = c
  ·subst he; simp
  ·have h1 : (y.toNat == c.toNat) = false := by simp; exact fun e => he (UInt8.toNat_inj.1 e)
   rw [h1, if_neg (by simp), Zc0 _ (by omega), ih (k + 1) (by omega)]
   have h2 : ¬ c = y := fun e => he e.symm
   simp [h2]
theorem ZC1 (c : UInt8) : Zcb ((c.toNat : Nat) : Int) = some (Ztn c) := by
 unfold Zcb; rw [Zze c _ 0 rfl]; rfl
def cnt (l : List UInt8) : Nat := (l.filter fun c => c.toNat == 45).length
theorem Zvp (s : ByteArray) (hs : s.size ≤ 1000000) : ∀ (d k m : Nat), s.size - k = d → k ≤ s.size → m ≤ k → ZbJ s m k =
  some ((s.data.toList.drop k).all Ztn && (decide (s.size = 1) || decide (m + cnt (s.data.toList.drop k) < s.size))) := by
 intro d
 induction d with
 | zero =>
  intro k m hk hle hm
  have : k = s.size := by omega
  subst this
  rw [ZbJ, if_pos (by simp), List.drop_eq_nil_of_le (by rw [sz]; omega)]
  have e1 : (((s.size : Nat) : Int) == 1) = decide (s.size = 1) := by rw [show (1 : Int) = ((1 : Nat) : Int) from rfl, Zdt, Bool.eq_iff_iff, beq_iff_eq, decide_eq_true_iff]
  rw [e1]
  have e2 : decide (((m : Nat) : Int) < ((s.size : Nat) : Int)) = decide (m + cnt ([] : List UInt8) < s.size) := decide_eq_decide.2 (by show _ ↔ m + 0 < s.size; omega)
  rw [e2]; rfl
 | succ d ih =>
  intro k m hk hle hm
  have hlt : k < s.size := by omega
  obtain ⟨y, hy⟩ : ∃ y, s.data.toList[k]? = some y := ⟨_, List.getElem?_eq_getElem (by rw [sz]; exact hlt)⟩
  have hne : ¬ ((((k : Nat) : Int) == ((s.size : Nat) : Int)) = true) := by rw [Zdt, beq_iff_eq]; omega
  rw [ZbJ, if_neg hne, Zd5, hy]
  simp only [Zm, ZB6, Ziv hy, List.all_cons]
  cases hc : Ztn y with
  | false => rfl
  | true =>
   rw [show (45 : Int) = ((45 : Nat) : Int) from rfl, Zdt]
   simp only [Bool.not_true, Bool.false_eq_true, if_false, Bool.true_and]
   cases h45 : (y.toNat == 45) with
   | true =>
    rw [if_pos rfl, Zc0 _ (by omega), Zc0 _ (by omega), ih (k + 1) (m + 1) (by omega) (by omega) (by omega)]
    have : cnt (y :: s.data.toList.drop (k + 1)) = cnt (s.data.toList.drop (k + 1)) + 1 := by unfold cnt; rw [List.filter_cons, if_pos h45]; rfl
    rw [this, show m + (cnt (s.data.toList.drop (k + 1)) + 1) = m + 1 + cnt (s.data.toList.drop (k + 1)) from by omega]
   | false =>
    rw [if_neg (by simp), Zc0 _ (by omega), ih (k + 1) m (by omega) (by omega) (by omega)]
    have : cnt (y :: s.data.toList.drop (k + 1)) = cnt (s.data.toList.drop (k + 1)) := by unfold cnt; rw [List.filter_cons, if_neg (by rw [h45]; simp)]
    rw [this]
theorem ZvG (s : ByteArray) (hs : s.size ≤ 1000000) : ∀ (d k m : Nat), s.size - k = d → k ≤ s.size → m ≤ k → Zax s m k =
  some ((s.data.toList.drop k).all Ztn && (decide (s.size = 1) || decide (m + cnt (s.data.toList.drop k) < s.size))) := by
 intro d
 induction d with
 | zero =>
  intro k m hk hle hm
  have : k = s.size := by omega
  subst this
  rw [Zax, if_neg (by rw [decide_eq_true_iff]; omega), List.drop_eq_nil_of_le (by rw [sz]; omega)]
  have e1 : (((s.size : Nat) : Int) == 1) = decide (s.size = 1) := by rw [show (1 : Int) = ((1 : Nat) : Int) from rfl, Zdt, Bool.eq_iff_iff, beq_iff_eq, decide_eq_true_iff]
  rw [e1]
  have e2 : decide (((m : Nat) : Int) < ((s.size : Nat) : Int)) = decide (m + cnt ([] : List UInt8) < s.size) := decide_eq_decide.2 (by show _ ↔ m + 0 < s.size; omega)
  rw [e2, Bool.or_comm]; rfl
 | succ d ih =>
  intro k m hk hle hm
  have hlt : k < s.size := by omega
  obtain ⟨y, hy⟩ : ∃ y, s.data.toList[k]? = some y := ⟨_, List.getElem?_eq_getElem (by rw [sz]; exact hlt)⟩
  rw [Zax, if_pos (by rw [decide_eq_true_iff]; omega), Zd5, hy]
  simp only [Zm, ZC1, Ziv hy, List.all_cons]
  cases hc : Ztn y with
  | false => rfl
  | true =>
   rw [show (45 : Int) = ((45 : Nat) : Int) from rfl, Zdt]
   simp only [Bool.not_true, Bool.false_eq_true, if_false, Bool.true_and]
   cases h45 : (y.toNat == 45) with
   | true =>
    rw [if_pos rfl, Zc0 _ (by omega), Zc0 _ (by omega), ih (k + 1) (m + 1) (by omega) (by omega) (by omega)]
    have : cnt (y :: s.data.toList.drop (k + 1)) = cnt (s.data.toList.drop (k + 1)) + 1 := by unfold cnt; rw [List.filter_cons, if_pos h45]; rfl
    rw [this, show m + (cnt (s.data.toList.drop (k + 1)) + 1) = m + 1 + cnt (s.data.toList.drop (k + 1)) from by omega]
   | false =>
    rw [if_neg (by simp), Zc0 _ (by omega), ih (k + 1) m (by omega) (by omega) (by omega)]
    have : cnt (y :: s.data.toList.drop (k + 1)) = cnt (s.data.toList.drop (k + 1)) := by unfold cnt; rw [List.filter_cons, if_neg (by rw [h45]; simp)]
    rw [this]
def Zek (l : List UInt8) : Bool := decide (0 < l.length) && decide (l.length ≤ 64) && l.all Ztn && (decide (l.length = 1) || decide (cnt l < l.length))
theorem Zro (s : ByteArray) : Zds s = some (Zek s.data.toList) := by
 unfold Zds Zek
 rw [Zmn, sz]
 by_cases hc : (decide (s.size = 0) || decide (((s.size : Nat) : Int) > 64)) = true
 ·rw [if_pos hc]
  rw [Bool.or_eq_true, decide_eq_true_iff, decide_eq_true_iff] at hc
  rcases hc with hc | hc
  ·rw [show decide (0 < s.size) = false from decide_eq_false (by omega)]; rfl
  ·rw [show decide (s.size ≤ 64) = false from decide_eq_false (by omega), Bool.and_false]; rfl
 ·rw [if_neg hc]
  rw [Bool.or_eq_true, decide_eq_true_iff, decide_eq_true_iff] at hc
  rw [Zvp s (by omega) _ 0 0 rfl (by omega) (by omega), List.drop_zero, show decide (0 < s.size) = true from decide_eq_true (by omega), show decide (s.size ≤ 64) = true from decide_eq_true (by omega), Nat.zero_add]; rfl
theorem Zyv (s : ByteArray) : ZcM s = some (Zek s.data.toList) := by
 unfold ZcM Zek
 rw [sz]
 by_cases hc : (decide (((s.size : Nat) : Int) < 1) || decide (((s.size : Nat) : Int) > 64)) = true
 ·rw [if_pos hc]
  rw [Bool.or_eq_true, decide_eq_true_iff, decide_eq_true_iff] at hc
  rcases hc with hc | hc
  ·rw [show decide (0 < s.size) = false from decide_eq_false (by omega)]; rfl
  ·rw [show decide (s.size ≤ 64) = false from decide_eq_false (by omega), Bool.and_false]; rfl
 ·rw [if_neg hc]
  rw [Bool.or_eq_true, decide_eq_true_iff, decide_eq_true_iff] at hc
  rw [ZvG s (by omega) _ 0 0 rfl (by omega) (by omega), List.drop_zero, show decide (0 < s.size) = true from decide_eq_true (by omega), show decide (s.size ≤ 64) = true from decide_eq_true (by omega), Nat.zero_add]; rfl

def Zc3 : List (List UInt8) := [[97, 115], [99, 97, 115, 101], [99, 108, 97, 115, 115], [100, 97, 116, 97], [100, 101, 114, 105, 118, 105, 110, 103], [100, 111], [101, 108, 115, 101], [104, 105, 100, 105, 110, 103], [105, 102], [105, 109, 112, 111, 114, 116], [105, 110], [105, 110, 102, 105, 120], [105, 110, 102, 105, 120, 108], [105, 110, 102, 105, 120, 114], [105, 110, 115, 116, 97, 110, 99, 101], [108, 101, 116], [109, 111, 100, 117, 108, 101], [111, 102], [113, 117, 97, 108, 105, 102, 105, 101, 100], [116, 104, 101, 110], [119, 104, 101, 114, 101], [95]]
def ZeR : List (List UInt8) := [[46, 46], [58, 58], [61], [92], [124], [60, 45], [45, 62], [64], [126], [61, 62]]
def Zvd (l : List UInt8) : List (List UInt8) → Option Bool
 | [] => some false
 | w :: ws => if (l == w) = true then some true else Zvd l ws
theorem Zmb (l : List UInt8) : ∀ ws, Zvd l ws = some (ws.contains l)
 | [] => rfl
 | w :: ws => by
  unfold Zvd
  rw [Zmb l ws, List.contains_cons]
  cases (l == w) <;> rfl
theorem ZkW (c : Bool) (x : Option Bool) : (if c = true then some c else x) = (if c = true then some true else x) := by cases c <;> rfl
theorem ZyW (c : Bool) (x y z : Option Bool) : (if c = true then (if c = true then x else y) else z) = (if c = true then x else z) := by cases c <;> rfl
theorem ZpS (c : Bool) : some c = (if c = true then some true else some false) := by cases c <;> rfl
theorem nk1 (x : Bool) : Zu x = some x := by cases x <;> rfl
theorem rk2 (x : Bool) : ZP x = some x := by cases x <;> rfl
theorem nsk (x : Bool) : ZQ x = some x := by cases x <;> rfl
theorem rsk (x : Bool) : ZC x = some x := by cases x <;> rfl
theorem ZBN (s : ByteArray) : ZbZ s = some (Zc3.contains s.data.toList) := by
 rw [← Zmb]
 unfold ZbZ
 simp only [nk1, ZkW, ZaY]
 rw [ZpS (s.data.toList == _)]
 rfl
theorem ZFl (s : ByteArray) : Zca s = some (Zc3.contains s.data.toList) := by
 rw [← Zmb]
 unfold Zca ZO
 simp only [rk2, ZyW, ZkW, ZaY]
 rw [ZpS (s.data.toList == _)]
 rfl
theorem Zzu (s : ByteArray) : Zbs s = some (ZeR.contains s.data.toList) := by
 rw [← Zmb]
 unfold Zbs
 simp only [nsk, ZkW, ZaY]
 rw [ZpS (s.data.toList == _)]
 rfl
theorem ZCz (s : ByteArray) : ZaX s = some (ZeR.contains s.data.toList) := by
 rw [← Zmb]
 unfold ZaX
 simp only [rsk, ZkW, ZaY]
 rw [ZpS (s.data.toList == _)]
 rfl
theorem ZAH {l : List UInt8} (h : Zc3.contains l = true) : Zhp l = true := by
 have h := List.contains_iff_mem.1 h
 have key : ∀ w ∈ Zc3, Zhp w = true := by decide
 exact key l h
theorem Zpo {l : List UInt8} (h : ZeR.contains l = true) : Zek l = true := by
 have h := List.contains_iff_mem.1 h
 have key : ∀ w ∈ ZeR, Zek w = true := by decide
 exact key l h
theorem ZsP : ∀ c : UInt8, Ztn c = true → wst c = false := by
 intro c h
 have h := List.contains_iff_mem.1 h
 have key : ∀ w ∈ ZtS, wst w = false := by decide
 exact key c h
theorem Zh5 {l : List UInt8} (h : Zhp l = true) : Zek l = false := by
 cases l with
 | nil => cases h
 | cons c r =>
  rw [Zhz, Bool.and_eq_true, Bool.and_eq_true] at h
  cases hs : Ztn c with
  | true => have := ZsP c hs; rw [h.1.2] at this; cases this
  | false => unfold Zek; rw [List.all_cons, hs]; simp
def Zh7 (l : List UInt8) : Bool := match l with | [] => false | c :: _ => ZhG c
def ZpY (l : List UInt8) : Bool := match l with | [] => false | c :: _ => c.toNat == 58
def Zdi (l : List UInt8) : Int :=
 if Zhp l = true then (if Zc3.contains l = true then 5 else if Zh7 l = true then 2 else 1)
 else if Zek l = true then (if ZeR.contains l = true then 6 else if ZpY l = true then 4 else 3) else 0
theorem Zn2 {s : ByteArray} (h : 0 < s.size) : ∃ c r, s.data.toList = c :: r ∧ btI s 0 = some c := by
 cases hl : s.data.toList with
 | nil => rw [← sz, hl] at h; cases h
 | cons c r => exact ⟨c, r, rfl, by have := Zd5 s 0; rw [hl] at this; exact this⟩
theorem Zl8 {s : ByteArray} (h : Zek s.data.toList = true) : 0 < s.size ∧ s.size ≤ 64 := by
 unfold Zek at h
 simp only [Bool.and_eq_true, decide_eq_true_iff, sz] at h
 omega
theorem Zmg (s : ByteArray) : Zbe s = some (Zdi s.data.toList) := by
 unfold Zbe Zdi
 rw [ZDg, Zm]
 cases hw : Zhp s.data.toList with
 | true =>
  obtain ⟨c, r, hl, hb⟩ := Zn2 (ZgE hw).1
  rw [if_pos rfl, if_pos rfl, ZFl, Zm]
  cases Zc3.contains s.data.toList with
  | true => rfl
  | false =>
   rw [if_neg (by simp), if_neg (by simp), hb, Zm, ZB9, Zm, hl]
   show _ = some (if ZhG c = true then 2 else 1)
   cases ZhG c <;> rfl
 | false =>
  rw [if_neg (by simp), if_neg (by simp), Zyv, Zm]
  cases hs : Zek s.data.toList with
  | true =>
   obtain ⟨c, r, hl, hb⟩ := Zn2 (Zl8 hs).1
   rw [if_pos rfl, if_pos rfl, ZCz, Zm]
   cases ZeR.contains s.data.toList with
   | true => rfl
   | false =>
    rw [if_neg (by simp), if_neg (by simp), hb, Zm, show (58 : Int) = ((58 : Nat) : Int) from rfl, Zdt, hl]
    show _ = some (if (c.toNat == 58) = true then 4 else 3)
    cases (c.toNat == 58) <;> rfl
  | false => rfl
def Zhx (l : List UInt8) : Bool := (Zhp l && !Zc3.contains l) || (Zek l && !ZeR.contains l)
theorem Zpn (l : List UInt8) : ((((Zdi l == 1) || (Zdi l == 2)) || (Zdi l == 3)) || (Zdi l == 4)) = Zhx l := by
 unfold Zdi Zhx
 cases hw : Zhp l with
 | true => rw [Zh5 hw]; cases Zc3.contains l <;> cases Zh7 l <;> rfl
 | false => cases Zek l <;> cases ZeR.contains l <;> cases ZpY l <;> rfl
theorem Zwo (s : ByteArray) : Zcy s = some (Zhx s.data.toList) := by
 unfold Zcy; rw [Zmg, Zm, Zpn]
theorem ZtJ (s : ByteArray) : ZdP s = some (Zhx s.data.toList) := by
 unfold ZdP Zhx
 rw [ZvO, Zm]
 cases hw : Zhp s.data.toList with
 | true =>
  rw [ZBN, Zro, Zh5 hw]
  cases Zc3.contains s.data.toList <;> rfl
 | false =>
  rw [Zro]
  cases Zek s.data.toList with
  | true => rw [Zzu]; cases ZeR.contains s.data.toList <;> rfl
  | false => rfl
theorem ZxF (l : List UInt8) : (Zdi l != 2) = !(Zhp l && Zh7 l && !Zc3.contains l) := by
 unfold Zdi
 cases Zhp l <;> cases Zc3.contains l <;> cases Zh7 l <;> cases Zek l <;> cases ZeR.contains l <;> cases ZpY l <;> rfl
theorem ZAP {l : List UInt8} (h : Zh7 l = true) : Zc3.contains l = false := by
 cases hr : Zc3.contains l with
 | false => rfl
 | true =>
  have hm := List.contains_iff_mem.1 hr
  have key : ∀ w ∈ Zc3, Zh7 w = false := by decide
  rw [key l hm] at h; cases h

def mkB (l : List UInt8) : ByteArray := ⟨l.toArray⟩
theorem Zeg (l : List UInt8) : (mkB l).data.toList = l := by simp [mkB]
theorem Zj8 (l : List UInt8) : (mkB l).size = l.length := by rw [← sz, Zeg]
theorem Zi3 (a b : ByteArray) : (a ++ b).data.toList = a.data.toList ++ b.data.toList := by simp
def okJ (m n : List UInt8) : Bool := Zhp m && Zh7 m && Zhx n
theorem ZqE {s : ByteArray} (h : Zhx s.data.toList = true) : 0 < s.size ∧ s.size ≤ 64 := by
 unfold Zhx at h
 rw [Bool.or_eq_true, Bool.and_eq_true, Bool.and_eq_true] at h
 rcases h with h | h
 ·exact ZgE h.1
 ·exact Zl8 h.1
def ZsF (m n : ByteArray) : ByteArray := if okJ m.data.toList n.data.toList = true then (m ++ ByteArray.mk #[46]) ++ n else ByteArray.mk #[]
theorem ZoC : IntKind.i64.max = 9223372036854775807 := rfl
theorem ZqO (a b : ByteArray) : (a ++ b).size = a.size + b.size := by rw [← sz, Zi3, List.length_append, sz, sz]
theorem orT {α : Type} (Y : Option Bool) (G : Bool → Option α) : ((if true = true then some true else Y) >>= G) = G true := rfl
theorem orF {α : Type} (Y : Option Bool) (G : Bool → Option α) : ((if false = true then some true else Y) >>= G) = (Y >>= G) := rfl
theorem Zy4 {α : Type} (Y : Option Bool) (G : Bool → Option α) : ((if true = true then Y else some false) >>= G) = (Y >>= G) := rfl
theorem ZDX {α : Type} (Y : Option Bool) (G : Bool → Option α) : ((if false = true then Y else some false) >>= G) = G false := rfl
theorem ifT {α : Type} (a b : α) : (if true = true then a else b) = a := rfl
theorem ifF {α : Type} (a b : α) : (if false = true then a else b) = b := rfl
theorem ZzO {m n : ByteArray} (hm : m.size ≤ 64) (hn : n.size ≤ 64) : (ZK (((m.size + (ByteArray.mk #[46]).size : Nat) : Int) ≤ IntKind.i64.max) >>= fun _ =>
  ZK ((((m ++ (ByteArray.mk #[46])).size + n.size : Nat) : Int) ≤ IntKind.i64.max) >>= fun _ => some ((m ++ (ByteArray.mk #[46])) ++ n)) = some ((m ++ (ByteArray.mk #[46])) ++ n) := by
 have e : (ByteArray.mk #[46]).size = 1 := rfl
 have h1 : ((m.size + (ByteArray.mk #[46]).size : Nat) : Int) ≤ IntKind.i64.max := by rw [ZoC, e]; omega
 have h2 : (((m ++ (ByteArray.mk #[46])).size + n.size : Nat) : Int) ≤ IntKind.i64.max := by rw [ZoC, ZqO, e]; omega
 rw [Zc0 _ h1, Zc0 _ h2]
theorem ZDz (m n : ByteArray) : ZfI m n = some (ZsF m n) := by
 unfold ZfI ZsF okJ
 rw [ZvO, Zm]
 cases hw : Zhp m.data.toList with
 | false => rw [Bool.not_false, orT, orT, Bool.false_and, Bool.false_and, ifT, ifF]
 | true =>
  obtain ⟨c, r, hl, hb⟩ := Zn2 (ZgE hw).1
  have h64 := ZgE hw
  have hu : Zh7 m.data.toList = ZhG c := by rw [hl]; rfl
  rw [Bool.not_true, orF, hb, Zm, ZCg, Zm, Zm, hu]
  cases ZhG c with
  | false => rw [Bool.not_false, orT, Bool.and_false, Bool.false_and, ifT, ifF]
  | true =>
   rw [Bool.not_true, orF, ZtJ, Zm, Zm]
   cases hn : Zhx n.data.toList with
   | false => rw [Bool.not_false, ifT, Bool.and_false, ifF]
   | true =>
    have h65 := ZqE hn
    rw [Bool.not_true, ifF, Bool.and_true, Bool.and_true, ifT]
    exact ZzO h64.2 h65.2
theorem ZDH (m n : ByteArray) : Zdg m n = some (ZsF m n) := by
 unfold Zdg ZsF okJ
 rw [Zmg, Zm, ZxF]
 cases hw : Zhp m.data.toList with
 | false => rw [show (!(false && Zh7 m.data.toList && !Zc3.contains m.data.toList)) = true from rfl, orT, show (false && Zh7 m.data.toList && Zhx n.data.toList) = false from rfl, ifT, ifF]
 | true =>
  have h64 := ZgE hw
  cases hu : Zh7 m.data.toList with
  | false => rw [show (!(true && false && !Zc3.contains m.data.toList)) = true from rfl, orT, show (true && false && Zhx n.data.toList) = false from rfl, ifT, ifF]
  | true =>
   rw [ZAP hu, Zwo, Bool.and_true, Bool.not_false, Bool.and_true, Bool.not_true, orF, Zm, Zm]
   cases hn : Zhx n.data.toList with
   | false => rw [Bool.not_false, ifT, Bool.and_false, ifF]
   | true =>
    have h65 := ZqE hn
    rw [Bool.not_true, ifF, Bool.and_true, ifT]
    exact ZzO h64.2 h65.2
theorem ZuV (m n : ByteArray) : ((ZsF m n).toList == (ByteArray.mk #[]).toList) = !okJ m.data.toList n.data.toList := by
 rw [Zmn]
 unfold ZsF
 cases okJ m.data.toList n.data.toList with
 | true =>
  have e : (ByteArray.mk #[46]).size = 1 := rfl
  rw [if_pos rfl]
  exact decide_eq_false (by rw [ZqO, ZqO, e]; omega)
 | false => rfl
def spl : List UInt8 → Option (List UInt8 × List UInt8)
 | [] => none
 | b :: l => if b.toNat = 46 then some ([], l) else (spl l).map fun p => (b :: p.1, p.2)
theorem ZBb : ∀ l : List UInt8, Lib.cut l [46] = match spl l with | some p => (p.1, p.2, true) | none => (l, [], false) := by
 have key : ∀ l : List UInt8, match spl l with | some p => 0 ≤ Lib.indexByte l 46 ∧ l.take (Lib.indexByte l 46).toNat = p.1 ∧ l.drop ((Lib.indexByte l 46).toNat + 1) = p.2 | none => Lib.indexByte l 46 = -1 := by
  intro l
  induction l with
  | nil => rfl
  | cons b l ih =>
   unfold spl Lib.indexByte
   by_cases hb : b.toNat = 46
   ·have : b = 46 := UInt8.toNat_inj.1 hb
    subst this
    simp
   ·have h2 : (b == 46) = false := by
     rw [beq_eq_false_iff_ne]; rintro rfl; exact hb rfl
    rw [if_neg hb, h2]
    simp only [Bool.false_eq_true, if_false]
    cases hs : spl l with
    | none => rw [hs] at ih; simp only at ih; simp [ih]
    | some p =>
     rw [hs] at ih
     simp only at ih
     obtain ⟨h3, h4, h5⟩ := ih
     have h6 : (Lib.indexByte l 46 == -1) = false := by rw [beq_eq_false_iff_ne]; omega
     simp only [Option.map_some, h6, Bool.false_eq_true, if_false]
     have h7 : (Lib.indexByte l 46 + 1).toNat = (Lib.indexByte l 46).toNat + 1 := by omega
     rw [h7, List.take_succ_cons, List.drop_succ_cons, h4, h5]
     exact ⟨by omega, rfl, rfl⟩
 intro l
 have h := key l
 unfold Lib.cut
 rw [Lib.index_one]
 cases hs : spl l with
 | none => rw [hs] at h; simp only at h; rw [h]; rfl
 | some p =>
  rw [hs] at h
  simp only at h
  rw [if_pos h.1, h.2.1]
  show (_, l.drop (_ + 1), true) = _
  rw [h.2.2]
def ZhL (s : ByteArray) : ByteArray × ByteArray × Bool :=
 match spl s.data.toList with
 | some p => if okJ p.1 p.2 = true then (mkB p.1, mkB p.2, true) else (ByteArray.mk #[], ByteArray.mk #[], false)
 | none => (ByteArray.mk #[], ByteArray.mk #[], false)
theorem Zwq (s : ByteArray) (hs : s.size ≤ 1000000000) : Zer s = some (ZhL s) := by
 unfold Zer strings_Cut
 rw [Zc0 _ (by omega), Zm]
 have hc : ZD0 s (ByteArray.mk #[46]) = match spl s.data.toList with | some p => (mkB p.1, mkB p.2, true) | none => (mkB s.data.toList, mkB [], false) := by
  unfold ZD0
  have e : (ByteArray.mk #[46]).data.toList = [46] := rfl
  rw [e, ZBb]
  cases spl s.data.toList <;> rfl
 unfold ZhL
 rw [hc]
 cases spl s.data.toList with
 | none => rw [Bool.not_false, orT, ifT]
 | some p =>
  simp only [Bool.not_true]
  rw [orF, ZDz, Zm, Zm, ZuV, Zeg, Zeg]
  cases okJ p.1 p.2 with
  | true => rw [Bool.not_true, ifF, ifT]
  | false => rw [Bool.not_false, ifT, ifF]
theorem Znj (s : ByteArray) (a b : Nat) (h : a ≤ b) (hb : b ≤ s.size) : slS s ((a : Nat) : Int) ((b : Nat) : Int) = some (s.extract a b) := by
 unfold slS
 rw [if_pos (by omega), Int.toNat_natCast, Int.toNat_natCast]
theorem ZeU (s : ByteArray) (a b : Nat) : (s.extract a b).data.toList = (s.data.toList.drop a).take (b - a) := by
 rw [ByteArray.data_extract, Array.toList_extract, List.extract_eq_take_drop]
theorem Zyu {l : List UInt8} {k : Nat} {y : UInt8} (h : l[k]? = some y) : spl (l.drop k) = if y.toNat = 46 then some ([], l.drop (k + 1)) else (spl (l.drop (k + 1))).map fun p => (y :: p.1, p.2) := by
 rw [Ziv h, spl]
theorem Zxu (s : ByteArray) (hs : s.size ≤ 1000000000) : ∀ (d k : Nat), s.size - k = d → k ≤ s.size → Za2 s k = some (match spl (s.data.toList.drop k) with
  | some p => if okJ (s.data.toList.take k ++ p.1) p.2 = true then (mkB (s.data.toList.take k ++ p.1), mkB p.2, true) else (ByteArray.mk #[], ByteArray.mk #[], false)
  | none => (ByteArray.mk #[], ByteArray.mk #[], false)) := by
 intro d
 induction d with
 | zero =>
  intro k hk hle
  rw [Za2, if_neg (by rw [decide_eq_true_iff]; omega), List.drop_eq_nil_of_le (by rw [sz]; omega)]; rfl
 | succ d ih =>
  intro k hk hle
  have hlt : k < s.size := by omega
  obtain ⟨y, hy⟩ : ∃ y, s.data.toList[k]? = some y := ⟨_, List.getElem?_eq_getElem (by rw [sz]; exact hlt)⟩
  rw [Za2, if_pos (by rw [decide_eq_true_iff]; omega), Zd5, hy, Zm, Zyu hy, show (46 : Int) = ((46 : Nat) : Int) from rfl, bne, Zdt]
  by_cases h46 : y.toNat = 46
  ·have h1 : (y.toNat == 46) = true := by rw [beq_iff_eq]; exact h46
   have hz0 : (s.extract 0 k).data.toList = s.data.toList.take k := by rw [ZeU]; rfl
   have hz1 : (s.extract (k + 1) s.size).data.toList = s.data.toList.drop (k + 1) := by rw [ZeU]; exact List.take_of_length_le (by rw [List.length_drop, sz]; omega)
   have e1 : s.extract 0 k = mkB (s.data.toList.take k) := Ze5 (by rw [hz0, Zeg])
   have e2 : s.extract (k + 1) s.size = mkB (s.data.toList.drop (k + 1)) := Ze5 (by rw [hz1, Zeg])
   rw [h1, Bool.not_true, ifF, Znj s 0 k (by omega) (by omega), Zm, Zc0 _ (by omega), Zc8 (by omega), Znj s (k + 1) s.size (by omega) (by omega), Zm, ZDH, Zm, ZuV, hz0, hz1, if_pos h46, Zm, Zc0 _ (by omega), Zm, e1, e2]
   simp only [List.append_nil]
   cases okJ (s.data.toList.take k) (s.data.toList.drop (k + 1)) with
   | true => rw [Bool.not_true, ifF, ifT]
   | false => rw [Bool.not_false, ifT, ifF]
  ·have h1 : (y.toNat == 46) = false := by rw [beq_eq_false_iff_ne]; exact h46
   rw [h1, Bool.not_false, ifT, Zc0 _ (by omega), ih (k + 1) (by omega) (by omega), if_neg h46]
   have ht : s.data.toList.take (k + 1) = s.data.toList.take k ++ [y] := by rw [List.take_add_one, hy]; rfl
   cases spl (s.data.toList.drop (k + 1)) with
   | none => rfl
   | some p =>
    simp only [Option.map_some]
    rw [ht, List.append_assoc]; rfl
theorem ZwK (s : ByteArray) (hs : s.size ≤ 1000000000) : Zcz s = some (ZhL s) := by
 unfold Zcz ZhL
 rw [Zxu s hs _ 0 rfl (by omega)]; rfl
def Zhh (s : ByteArray) : Bool := (ZhL s).2.2 || Zhx s.data.toList
theorem ZzD (s : ByteArray) (hs : s.size ≤ 1000000000) : Zel s = some (Zhh s) := by
 unfold Zel Zhh
 rw [Zwq s hs, Zm]
 cases (ZhL s).2.2 with
 | true => rfl
 | false => rw [orF, ZtJ]; rfl
theorem Zy3 (s : ByteArray) (hs : s.size ≤ 1000000000) : Zcw s = some (Zhh s) := by
 unfold Zcw Zhh
 rw [ZwK s hs, Zm]
 cases (ZhL s).2.2 with
 | true => rfl
 | false => rw [orF, Zwo]; rfl

def Zo7 (b : UInt8) : Prop := 48 ≤ b.toNat ∧ b.toNat ≤ 57
theorem Ziq {k : Nat} (h : k < 10) : (UInt8.ofNat (48 + k)).toNat = 48 + k := by
 rw [UInt8.toNat_ofNat']; omega
theorem Zxq : ∀ (n u : Nat), u ≤ n → ∀ b ∈ Lib.decDigits u, Zo7 b := by
 intro n
 induction n with
 | zero =>
  intro u hu b hb
  rw [Lib.decDigits, dif_pos (by omega)] at hb
  simp only [List.mem_singleton] at hb
  subst hb
  unfold Zo7; rw [Ziq (by omega)]; omega
 | succ n ih =>
  intro u hu b hb
  rw [Lib.decDigits] at hb
  split at hb
  ·simp only [List.mem_singleton] at hb
   subst hb
   unfold Zo7; rw [Ziq (by omega)]; omega
  ·rw [List.mem_append] at hb
   rcases hb with hb | hb
   ·exact ih (u / 10) (by omega) b hb
   ·simp only [List.mem_singleton] at hb
    subst hb
    unfold Zo7; rw [Ziq (by omega)]; omega
theorem Zte : ∀ (k u : Nat), u < 10 ^ (k + 1) → (Lib.decDigits u).length ≤ k + 1
 | 0, u, h => by rw [Lib.decDigits, dif_pos (by simpa using h)]; simp
 | k + 1, u, h => by
  rw [Lib.decDigits]
  split
  ·simp
  ·rw [List.length_append, List.length_singleton]
   have := Zte k (u / 10) (by rw [Nat.pow_succ] at h; omega)
   omega
theorem Zs6 (u : Nat) : Lib.decDigits u ≠ [] := by
 rw [Lib.decDigits]; split <;> simp
theorem ZxI : ∀ (n u : Nat), u ≤ n → u < 18446744073709551616 → ∀ r : List UInt8, Lib.parseUint10 0 (Lib.decDigits u ++ r) = Lib.parseUint10 u r := by
 intro n
 induction n with
 | zero =>
  intro u hu _ r
  obtain rfl : u = 0 := by omega
  rw [Lib.decDigits, dif_pos (by omega)]
  simp only [List.cons_append, List.nil_append, Lib.parseUint10]
  rfl
 | succ n ih =>
  intro u hu hl r
  rw [Lib.decDigits]
  split
  ·rename_i h
   simp only [List.cons_append, List.nil_append, Lib.parseUint10, Ziq h]
   rw [if_pos (by omega), if_neg (by omega), if_neg (by omega)]
   congr 1; omega
  ·rename_i h
   rw [List.append_assoc, ih (u / 10) (by omega) (by omega)]
   simp only [List.cons_append, List.nil_append, Lib.parseUint10, Ziq (show u % 10 < 10 by omega)]
   rw [if_pos (by omega), if_neg (by omega), if_neg (by omega)]
   congr 1; omega
theorem Zxh {u : Nat} (h : u < 18446744073709551616) : Lib.parseMag (Lib.decDigits u) = .ok u := by
 unfold Lib.parseMag
 rw [if_neg (Zs6 u)]
 have := ZxI u u (Nat.le_refl _) h []
 rw [List.append_nil] at this
 rw [this]; rfl
def Zj2 (n : Int) : Prop := -9223372036854775808 ≤ n ∧ n ≤ 9223372036854775807
theorem Zo9 {n : Int} (h : Zj2 n) : Lib.atoiAll (Lib.itoa n) = .ok n := by
 unfold Zj2 at h
 unfold Lib.itoa
 by_cases hn : n < 0
 ·rw [if_pos hn]
  simp only [Lib.atoiAll]
  rw [if_pos (by decide), Zxh (by omega)]
  simp only
  rw [if_neg (by simp), if_neg (by simp; omega), if_pos (by decide)]
  congr 1; omega
 ·rw [if_neg hn]
  cases hd : Lib.decDigits n.toNat with
  | nil => exact absurd hd (Zs6 _)
  | cons b r =>
   have hb : Zo7 b := Zxq _ n.toNat (Nat.le_refl _) b (by rw [hd]; simp)
   unfold Zo7 at hb
   have hm := Zxh (u := n.toNat) (by omega)
   rw [hd] at hm
   simp only [Lib.atoiAll]
   rw [if_neg (by omega), hm]
   simp only
   rw [if_neg (by omega), if_neg (by omega), if_neg (by omega)]
   congr 1; omega
theorem ZAc {n : Int} (h : Zj2 n) : (Lib.itoa n).length ≤ 21 := by
 unfold Zj2 at h
 unfold Lib.itoa
 have hp : (9223372036854775808 : Nat) < 10 ^ (19 + 1) := by decide
 split
 ·have := Zte 19 n.natAbs (by omega); simp; omega
 ·have := Zte 19 n.toNat (by omega); omega
theorem Zkn (n : Int) : (ZnF n).data.toList = Lib.itoa n := rfl
theorem ZrB {l : List UInt8} {v : Int} (h : Lib.atoiAll l = .ok v) : Zj2 v := by
 unfold Zj2
 cases l with
 | nil => cases h
 | cons c r =>
  simp only [Lib.atoiAll] at h
  split at h
  ·cases h
  ·cases h
  ·rename_i u hu
   split at h
   ·cases h
   ·split at h
    ·cases h
    ·injection h with h
     split at h <;> omega
def ZFU (n : Nat) (c : UInt8) : Nat := 10 * n + (c.toNat - 48)
def ZhE (n : Nat) (l : List UInt8) : Nat := l.foldl ZFU n
theorem Zzc (a b : List UInt8) (n : Nat) : ZhE n (a ++ b) = ZhE (ZhE n a) b := List.foldl_append
theorem ZlJ (n : Nat) : ZhE n [] = n := List.foldl_nil
theorem ZjP (n : Nat) (c : UInt8) (l : List UInt8) : ZhE n (c :: l) = ZhE (10 * n + (c.toNat - 48)) l := List.foldl_cons ..
theorem Zuq (c : UInt8) : ZhE 0 [c] = c.toNat - 48 := by rw [ZjP, ZlJ]; omega
theorem Zr4 (l : List UInt8) (c : UInt8) : ZhE 0 (l ++ [c]) = 10 * ZhE 0 l + (c.toNat - 48) := by rw [Zzc, ZjP, ZlJ]
theorem ZoK : ∀ (l : List UInt8) (n : Nat), n ≤ ZhE n l
 | [], n => by rw [ZlJ]; exact Nat.le_refl _
 | c :: l, n => by rw [ZjP]; exact Nat.le_trans (by omega) (ZoK l _)
def ZhW (l : List UInt8) : Bool := match l with
 | [] => false
 | c :: r => (r.isEmpty || !(c.toNat == 48)) && (c :: r).all Zgf && decide (ZhE 0 (c :: r) ≤ 9223372036854775807)
theorem Zmu (c : UInt8) : Zgf c = true ↔ 48 ≤ c.toNat ∧ c.toNat ≤ 57 := by
 unfold Zgf; rw [Bool.and_eq_true, decide_eq_true_iff, decide_eq_true_iff]
theorem ZA1 : ∀ (n u : Nat), u ≤ n → ZhE 0 (Lib.decDigits u) = u := by
 intro n
 induction n with
 | zero =>
  intro u hu
  rw [Lib.decDigits, dif_pos (by omega), Zuq, Ziq (by omega)]; omega
 | succ n ih =>
  intro u hu
  rw [Lib.decDigits]
  split
  ·rw [Zuq, Ziq (by omega)]; omega
  ·rw [Zr4, ih (u / 10) (by omega), Ziq (by omega)]; omega
theorem Zzl : ∀ (n u : Nat), u ≤ n → 0 < u → ∀ c r, Lib.decDigits u = c :: r → c.toNat ≠ 48 := by
 intro n
 induction n with
 | zero => intro u hu h0; omega
 | succ n ih =>
  intro u hu h0 c r h
  rw [Lib.decDigits] at h
  split at h
  ·injection h with h; rw [← h, Ziq (by omega)]; omega
  ·cases hd : Lib.decDigits (u / 10) with
   | nil => exact absurd hd (Zs6 _)
   | cons b r' =>
    rw [hd] at h
    injection h with h
    rw [← h]
    exact ih (u / 10) (by omega) (by omega) b r' hd
theorem Zyg {u : Nat} (h : u ≤ 9223372036854775807) : ZhW (Lib.decDigits u) = true := by
 cases hd : Lib.decDigits u with
 | nil => exact absurd hd (Zs6 _)
 | cons c r =>
  unfold ZhW
  have hv := ZA1 u u (Nat.le_refl _)
  have hall := Zxq u u (Nat.le_refl _)
  rw [hd] at hv hall
  have h1 : (c :: r).all Zgf = true := List.all_eq_true.2 fun x hx => (Zmu x).2 (hall x hx)
  have h2 : (r.isEmpty || !(c.toNat == 48)) = true := by
   rcases Nat.eq_zero_or_pos u with h0 | h0
   ·subst h0
    rw [Lib.decDigits, dif_pos (by omega)] at hd
    injection hd with _ hd
    rw [← hd]; rfl
   ·have := Zzl u u (Nat.le_refl _) h0 c r hd
    rw [show (c.toNat == 48) = false from by rw [beq_eq_false_iff_ne]; exact this]; simp
  simp only [h1, h2, hv, Bool.true_and]
  exact decide_eq_true h
theorem Zr6 {c : UInt8} {k : Nat} (h : 48 ≤ c.toNat) (hk : k = c.toNat - 48) : UInt8.ofNat (48 + k) = c := by
 apply UInt8.toNat_inj.1
 have := c.toNat_lt
 rw [UInt8.toNat_ofNat', hk]; omega
theorem ZrQ : ∀ (n : Nat) (l : List UInt8), l.length = n → l ≠ [] → (∀ x ∈ l, Zgf x = true) → (∀ c r, l = c :: r → r = [] ∨ c.toNat ≠ 48) → Lib.decDigits (ZhE 0 l) = l := by
 intro n
 induction n with
 | zero => intro l hl hne; exact absurd (List.eq_nil_of_length_eq_zero hl) hne
 | succ n ih =>
  intro l hl hne hall hh
  rcases List.eq_nil_or_concat l with h0 | ⟨b, c, hc⟩
  ·exact absurd h0 hne
  ·rw [List.concat_eq_append] at hc
   subst hc
   have hcd := (Zmu c).1 (hall c (by simp))
   rw [Zr4]
   cases b with
   | nil =>
    rw [ZlJ, Lib.decDigits, dif_pos (by omega), Zr6 hcd.1 (by omega)]; rfl
   | cons d b =>
    have hlen : (d :: b).length = n := by simp at hl ⊢; omega
    have ZHr : d.toNat ≠ 48 := by
     rcases hh d (b ++ [c]) rfl with h | h
     ·simp at h
     ·exact h
    have hih := ih (d :: b) hlen (by simp) (fun x hx => hall x (by simp at hx ⊢; rcases hx with h | h; exact .inl h; exact .inr (.inl h))) (fun e r he => by injection he with h1 h2; subst h1; exact .inr ZHr)
    have hpos : 0 < ZhE 0 (d :: b) := by
     have hdd := (Zmu d).1 (hall d (by simp))
     have := ZoK b (10 * 0 + (d.toNat - 48))
     rw [ZjP]; omega
    rw [Lib.decDigits, dif_neg (by omega)]
    have e1 : (10 * ZhE 0 (d :: b) + (c.toNat - 48)) / 10 = ZhE 0 (d :: b) := by omega
    have e2 : (10 * ZhE 0 (d :: b) + (c.toNat - 48)) % 10 = c.toNat - 48 := by omega
    rw [e1, e2, hih, Zr6 hcd.1 rfl]
theorem Zsp {l : List UInt8} (h : ZhW l = true) : Lib.decDigits (ZhE 0 l) = l ∧ ZhE 0 l ≤ 9223372036854775807 := by
 cases l with
 | nil => cases h
 | cons c r =>
  unfold ZhW at h
  rw [Bool.and_eq_true, Bool.and_eq_true, decide_eq_true_iff, List.all_eq_true] at h
  refine ⟨ZrQ _ (c :: r) rfl (by simp) h.1.2 fun d r' he => ?_, h.2⟩
  injection he with h1 h2
  subst h1 h2
  have := h.1.1
  rw [Bool.or_eq_true] at this
  rcases this with h3 | h3
  ·exact .inl (by simpa using h3)
  ·exact .inr (by simpa using h3)

theorem w64 {x : Int} (h : -9223372036854775808 ≤ x) (h' : x ≤ 9223372036854775807) : IntKind.i64.wrap x = x := IntWalk.i64_in x ⟨h, by omega⟩
theorem w8 {x : Int} (h : 0 ≤ x) (h' : x ≤ 255) : IntKind.u8.wrap x = x := by
 unfold IntKind.wrap
 simp [IntKind.bits, IntKind.signed]
 omega
theorem ZBp (s : ByteArray) (hs : s.size ≤ 1000000000) : ∀ (d k m : Nat), s.size - k = d → k ≤ s.size → m ≤ 9223372036854775807 → ZaN s ((m : Nat) : Int) k =
  some (if ((s.data.toList.drop k).all Zgf && decide (ZhE m (s.data.toList.drop k) ≤ 9223372036854775807)) = true then (((ZhE m (s.data.toList.drop k) : Nat) : Int), true) else (0, false)) := by
 intro d
 induction d with
 | zero =>
  intro k m hk hle hm
  rw [ZaN, if_neg (by rw [decide_eq_true_iff]; omega), List.drop_eq_nil_of_le (by rw [sz]; omega), ZlJ, List.all_nil, Bool.true_and, if_pos (decide_eq_true hm)]
 | succ d ih =>
  intro k m hk hle hm
  have hlt : k < s.size := by omega
  obtain ⟨y, hy⟩ : ∃ y, s.data.toList[k]? = some y := ⟨_, List.getElem?_eq_getElem (by rw [sz]; exact hlt)⟩
  rw [ZaN, if_pos (by rw [decide_eq_true_iff]; omega), Zd5, hy, Zm, ZBU, Zm, Ziv hy, List.all_cons, ZjP]
  cases hd : Zgf y with
  | false => rw [Bool.not_false, ifT, Bool.false_and, Bool.false_and, ifF]
  | true =>
   have hdd := (Zmu y).1 hd
   have e8 : IntKind.u8.wrap (((y.toNat : Nat) : Int) - 48) = ((y.toNat - 48 : Nat) : Int) := by rw [w8 (by omega) (by omega)]; omega
   rw [Bool.not_true, ifF, Zm, e8, w64 (x := ((y.toNat - 48 : Nat) : Int)) (by omega) (by omega), w64 (x := 9223372036854775807 - ((y.toNat - 48 : Nat) : Int)) (by omega) (by omega)]
   have et : Int.tdiv (9223372036854775807 - ((y.toNat - 48 : Nat) : Int)) 10 = (9223372036854775807 - ((y.toNat - 48 : Nat) : Int)) / 10 := Int.tdiv_eq_ediv_of_nonneg (by omega)
   rw [et, w64 (x := (9223372036854775807 - ((y.toNat - 48 : Nat) : Int)) / 10) (by omega) (by omega), Bool.true_and]
   by_cases hg : 10 * m + (y.toNat - 48) ≤ 9223372036854775807
   ·rw [if_neg (by rw [decide_eq_true_iff]; omega), Zc0 _ (by omega), w64 (x := 10 * ((m : Nat) : Int)) (by omega) (by omega), w64 (x := 10 * ((m : Nat) : Int) + ((y.toNat - 48 : Nat) : Int)) (by omega) (by omega)]
    have e : 10 * ((m : Nat) : Int) + ((y.toNat - 48 : Nat) : Int) = ((10 * m + (y.toNat - 48) : Nat) : Int) := by omega
    rw [e, ih (k + 1) (10 * m + (y.toNat - 48)) (by omega) (by omega) hg]
   ·rw [if_pos (by rw [decide_eq_true_iff]; omega)]
    have h1 := ZoK (s.data.toList.drop (k + 1)) (10 * m + (y.toNat - 48))
    rw [show decide (ZhE (10 * m + (y.toNat - 48)) (s.data.toList.drop (k + 1)) ≤ 9223372036854775807) = false from decide_eq_false (by omega), Bool.and_false, ifF]
theorem Zzv (s : ByteArray) (hs : s.size ≤ 1000000000) : Zcj s = some (if ZhW s.data.toList = true then (((ZhE 0 s.data.toList : Nat) : Int), true) else (0, false)) := by
 unfold Zcj
 rw [Zmn]
 cases hl : s.data.toList with
 | nil =>
  have h0 : s.size = 0 := by rw [← sz, hl]; rfl
  rw [decide_eq_true h0, orT, ifT]; rfl
 | cons c r =>
  have h0 : s.size = r.length + 1 := by rw [← sz, hl]; rfl
  have hb : btI s 0 = some c := by have := Zd5 s 0; rw [hl] at this; exact this
  rw [decide_eq_false (by omega), orF, hb, Zm, Zm, show (48 : Int) = ((48 : Nat) : Int) from rfl, Zdt]
  have e1 : decide (((s.size : Nat) : Int) > 1) = !r.isEmpty := by
   cases r with
   | nil => exact decide_eq_false (by simp at h0; omega)
   | cons a b => exact decide_eq_true (by simp at h0; omega)
  rw [e1]
  have e2 : ZhW (c :: r) = ((r.isEmpty || !(c.toNat == 48)) && (c :: r).all Zgf && decide (ZhE 0 (c :: r) ≤ 9223372036854775807)) := rfl
  rw [e2]
  cases hz : ((c.toNat == 48) && !r.isEmpty) with
  | true =>
   have : (r.isEmpty || !(c.toNat == 48)) = false := by revert hz; cases (c.toNat == 48) <;> cases r.isEmpty <;> simp
   rw [ifT, this, Bool.false_and, Bool.false_and, ifF]
  | false =>
   have : (r.isEmpty || !(c.toNat == 48)) = true := by revert hz; cases (c.toNat == 48) <;> cases r.isEmpty <;> simp
   have hh := ZBp s hs _ 0 0 rfl (by omega) (by omega)
   rw [ifF, this, Bool.true_and]
   rw [List.drop_zero, hl] at hh
   exact hh

def spd : List UInt8 → Option (List UInt8 × List UInt8)
 | [] => none
 | b :: l => match spd l with
  | some p => some (b :: p.1, p.2)
  | none => if b.toNat = 36 then some ([], l) else none
theorem Zrw : ∀ {l : List UInt8} {p : List UInt8 × List UInt8}, spd l = some p → ∃ b : UInt8, b.toNat = 36 ∧ l = p.1 ++ b :: p.2
 | [], p, h => by cases h
 | c :: l, p, h => by
  unfold spd at h
  cases hs : spd l with
  | some q =>
   rw [hs] at h
   injection h with h
   obtain ⟨b, hb, hl⟩ := Zrw hs
   subst h
   exact ⟨b, hb, by rw [hl]; rfl⟩
  | none =>
   rw [hs] at h
   simp only at h
   split at h
   ·injection h with h; subst h; exact ⟨c, by assumption, rfl⟩
   ·cases h
theorem Zuy (y : UInt8) : ∀ l : List UInt8, spd (l ++ [y]) = if y.toNat = 36 then some (l, []) else (spd l).map fun p => (p.1, p.2 ++ [y])
 | [] => rfl
 | b :: l => by
  rw [List.cons_append]
  unfold spd
  rw [Zuy y l]
  by_cases h : y.toNat = 36
  ·rw [if_pos h, if_pos h]
  ·rw [if_neg h, if_neg h]
   cases spd l with
   | some p => rfl
   | none =>
    simp only [Option.map_none]
    split <;> rfl
def ZtZ (l : List UInt8) : Int := match spd l with
 | some p => ((p.1.length : Nat) : Int)
 | none => -1
theorem ZyG (s : ByteArray) (hs : s.size ≤ 1000000000) : ∀ k, k ≤ s.size → ZN s 36 (((k : Nat) : Int) - 1) = some (ZtZ (s.data.toList.take k)) := by
 intro k
 induction k with
 | zero => intro _; rw [ZN, if_neg (by rw [decide_eq_true_iff]; omega)]; rfl
 | succ k ih =>
  intro hk
  obtain ⟨y, hy⟩ : ∃ y, s.data.toList[k]? = some y := ⟨_, List.getElem?_eq_getElem (by rw [sz]; exact hk)⟩
  have e : ((k + 1 : Nat) : Int) - 1 = ((k : Nat) : Int) := by omega
  rw [e, ZN, if_pos (by rw [decide_eq_true_iff]; omega), Zd5, hy, Zm, show (36 : Int) = ((36 : Nat) : Int) from rfl, Zdt]
  have ht : s.data.toList.take (k + 1) = s.data.toList.take k ++ [y] := by rw [List.take_add_one, hy]; rfl
  have hl : (s.data.toList.take k).length = k := by rw [List.length_take, sz]; omega
  unfold ZtZ
  rw [ht, Zuy]
  by_cases h : y.toNat = 36
  ·rw [if_pos (by rw [beq_iff_eq]; exact h), if_pos h]; simp only [hl]
  ·rw [if_neg (by rw [beq_iff_eq]; exact h), if_neg h, w64 (by omega) (by omega)]
   have := ih (by omega)
   rw [show ((36 : Nat) : Int) = 36 from rfl, this]
   unfold ZtZ
   cases spd (s.data.toList.take k) <;> rfl
theorem ZDM (s : ByteArray) (hs : s.size ≤ 1000000000) : ZbE s 36 = some (ZtZ s.data.toList) := by
 unfold ZbE ZaM
 rw [w64 (by omega) (by omega), ZyG s hs s.size (Nat.le_refl _), Zm, List.take_of_length_le (by rw [sz]; omega)]
def Zfo (s : ByteArray) : ByteArray × Int × Bool :=
 match spd s.data.toList with
 | some p => if (Zhh (mkB p.1) && ZhW p.2) = true then (mkB p.1, ((ZhE 0 p.2 : Nat) : Int), true) else (ByteArray.mk #[], 0, false)
 | none => (ByteArray.mk #[], 0, false)
theorem Zxz {n : Int} (h : Zj2 n) : strconv_Itoa n = some (ZnF n) := by
 unfold strconv_Itoa
 have h' : -9223372036854775808 ≤ n ∧ n ≤ 9223372036854775807 := h
 rw [Zc0 _ h']
def Zjn (b : ByteArray) (n : Int) : ByteArray := if (decide (n < 0) || !Zhh b) = true then ByteArray.mk #[] else (b ++ ByteArray.mk #[36]) ++ ZnF n
theorem ZAJ {b : ByteArray} {n : Int} (hb : b.size ≤ 1000000000) (hn : Zj2 n) : (ZK (((b.size + (ByteArray.mk #[36]).size : Nat) : Int) ≤ IntKind.i64.max) >>= fun _ => strconv_Itoa n >>= fun r9 =>
  ZK ((((b ++ (ByteArray.mk #[36])).size + r9.size : Nat) : Int) ≤ IntKind.i64.max) >>= fun _ => some ((b ++ (ByteArray.mk #[36])) ++ r9)) = some ((b ++ (ByteArray.mk #[36])) ++ ZnF n) := by
 have e : (ByteArray.mk #[36]).size = 1 := rfl
 have hl : (ZnF n).size ≤ 21 := by rw [← sz, Zkn]; exact ZAc hn
 have h1 : ((b.size + (ByteArray.mk #[36]).size : Nat) : Int) ≤ IntKind.i64.max := by rw [ZoC, e]; omega
 have h2 : (((b ++ (ByteArray.mk #[36])).size + (ZnF n).size : Nat) : Int) ≤ IntKind.i64.max := by rw [ZoC, ZqO, e]; omega
 rw [Zc0 _ h1, Zxz hn, Zm, Zc0 _ h2]
theorem ZBW (b : ByteArray) (n : Int) (hb : b.size ≤ 1000000000) (hn : Zj2 n) : Zfv b n = some (Zjn b n) := by
 unfold Zfv Zjn
 cases decide (n < 0) with
 | true => rw [orT, Bool.true_or, ifT, ifT]
 | false =>
  rw [orF, ZzD b hb, Zm, Zm, Bool.false_or]
  cases Zhh b with
  | true => rw [Bool.not_true, ifF, ifF]; exact ZAJ hb hn
  | false => rw [Bool.not_false, ifT, ifT]
theorem ZDo (b : ByteArray) (n : Int) (hb : b.size ≤ 1000000000) (hn : Zj2 n) : ZcU b n = some (Zjn b n) := by
 unfold ZcU Zjn
 rw [Zy3 b hb, Zm, Bool.or_comm]
 cases (decide (n < 0) || !Zhh b) with
 | true => rw [ifT, ifT]
 | false => rw [ifF, ifF]; exact ZAJ hb hn
theorem Zt4 (a : List UInt8) (b : UInt8) (r : List UInt8) : (a ++ b :: r).take a.length = a ∧ (a ++ b :: r).drop (a.length + 1) = r := by
 constructor
 ·rw [List.take_left']; rfl
 ·rw [← List.drop_drop, List.drop_left']
  ·rfl
  ·rfl
theorem Znk {a : List UInt8} (h : ZhW a = true) : Lib.atoiAll a = .ok ((ZhE 0 a : Nat) : Int) := by
 obtain ⟨h1, h2⟩ := Zsp h
 have := Zo9 (n := ((ZhE 0 a : Nat) : Int)) ⟨by omega, by omega⟩
 unfold Lib.itoa at this
 rw [if_neg (by omega), Int.toNat_natCast, h1] at this
 exact this
theorem ZxQ {a : List UInt8} {v : Int} (h : Lib.atoiAll a = .ok v) : (¬ v < 0 ∧ Lib.itoa v = a) ↔ ZhW a = true := by
 constructor
 ·rintro ⟨h0, h1⟩
  have hr := ZrB h
  unfold Lib.itoa at h1
  rw [if_neg h0] at h1
  rw [← h1]
  exact Zyg (by unfold Zj2 at hr; omega)
 ·intro hc
  rw [Znk hc] at h
  injection h with h
  subst h
  refine ⟨by omega, ?_⟩
  unfold Lib.itoa
  rw [if_neg (by omega), Int.toNat_natCast, (Zsp hc).1]
theorem ZvS (s : ByteArray) (hs : s.size ≤ 1000000000) : Zeu s = some (Zfo s) := by
 unfold Zeu Zfo
 rw [ZDM s hs, Zm]
 unfold ZtZ
 cases hd : spd s.data.toList with
 | none => rfl
 | some p =>
  obtain ⟨b, hb, hl⟩ := Zrw hd
  have hlen : s.size = p.1.length + 1 + p.2.length := by rw [← sz, hl]; simp; omega
  obtain ⟨t1, t2⟩ := Zt4 p.1 b p.2
  simp only
  have ha : slS s (((p.1.length + 1 : Nat) : Int)) ((s.size : Nat) : Int) = some (mkB p.2) := by
   rw [Znj s _ _ (by omega) (by omega)]
   congr 1
   refine Ze5 ?_
   rw [ZeU, Zeg, hl, t2]
   exact List.take_of_length_le (by omega)
  have hz : slS s ((0 : Nat) : Int) ((p.1.length : Nat) : Int) = some (mkB p.1) := by
   rw [Znj s _ _ (by omega) (by omega)]
   congr 1
   refine Ze5 ?_
   rw [ZeU, Zeg, hl]
   exact t1
  rw [if_neg (by rw [decide_eq_true_iff]; omega), Zc8 (by omega), ha, Zm]
  have hat : ZeW (mkB p.2) = some (Zxo (mkB p.2)) := by unfold ZeW; rw [Zc0 _ (by rw [Zj8]; omega)]
  rw [hat, Zm, hz]
  unfold Zxo
  rw [Zeg]
  have hno : ∀ e, Lib.atoiAll p.2 = e → (∀ v, e ≠ .ok v) → ZhW p.2 = false := fun e he hv => by
   cases hc : ZhW p.2 with
   | false => rfl
   | true => exact absurd (he.symm.trans (Znk hc)) (hv _)
  cases hat2 : Lib.atoiAll p.2
  rotate_left
  ·rw [hno _ hat2 (by simp), Bool.and_false, ifF]; rfl
  ·rw [hno _ hat2 (by simp), Bool.and_false, ifF]; rfl
  ·rename_i v
   have hr := ZrB hat2
   have hbk := ZxQ hat2
   simp only
   rw [if_neg (by simp), Zm, ZBW _ _ (by rw [Zj8]; omega) hr, Zm]
   have ZIs : b = 36 := UInt8.toNat_inj.1 hb
   have hkey : ((Zjn (mkB p.1) v).toList == s.toList) = (Zhh (mkB p.1) && ZhW p.2) := by
    rw [ZaY, ZaY, hl]
    unfold Zjn
    cases hst : Zhh (mkB p.1) with
    | false =>
     rw [Bool.not_false, Bool.or_true, ifT, Bool.false_and, beq_eq_false_iff_ne]
     intro h
     have := congrArg List.length h
     simp at this
    | true =>
     rw [Bool.not_true, Bool.or_false, Bool.true_and]
     by_cases hv : v < 0
     ·have hc : ZhW p.2 = false := by
       cases hc : ZhW p.2 with
       | false => rfl
       | true => exact absurd hv (hbk.2 hc).1
      rw [decide_eq_true hv, ifT, hc, beq_eq_false_iff_ne]
      intro h
      have := congrArg List.length h
      simp at this
     ·rw [decide_eq_false hv, ifF, Zi3, Zi3, Zeg, Zkn]
      have e36 : (ByteArray.mk #[36]).data.toList = [36] := rfl
      rw [e36, ZIs, Bool.eq_iff_iff, beq_iff_eq, ← hbk, List.append_assoc]
      constructor
      ·intro h
       have h2 := List.append_cancel_left h
       injection h2 with _ h3
       exact ⟨hv, h3⟩
      ·rintro ⟨_, h⟩
       rw [h]; rfl
   rw [hkey]
   cases hc : (Zhh (mkB p.1) && ZhW p.2) with
   | false => rw [Bool.not_false, ifF]; rfl
   | true =>
    rw [Bool.not_true, ifT]
    rw [Bool.and_eq_true] at hc
    have hv := hat2.symm.trans (Znk hc.2)
    injection hv with hv
    rw [hv]; rfl

def ZE8 (s : ByteArray) (Zhn : Int) : Option (ByteArray × Int × Bool) :=
 (if (decide (Zhn < 0)) = true then some true else (slS s ((0 : Nat) : Int) Zhn) >>= fun z37 =>
 Zcw z37 >>= fun r38 =>
 some (!r38)) >>= fun c39 =>
 if c39 = true then
 some ((ByteArray.mk #[]), 0, false)
 else
 (slS s (IntKind.i64.wrap (Zhn + 1)) ((s.size : Nat) : Int)) >>= fun z42 =>
 Zcj z42 >>= fun r43 =>
 if (!r43.2) = true then
 some ((ByteArray.mk #[]), 0, false)
 else
 (slS s ((0 : Nat) : Int) Zhn) >>= fun z46 =>
 some (z46, r43.1, true)
theorem ZAj (s : ByteArray) (hs : s.size ≤ 1000000000) : ∀ (d k : Nat) (Zhn : Int), s.size - k = d → k ≤ s.size → ZaV s Zhn k = ZE8 s (match spd (s.data.toList.drop k) with | some p => (((k + p.1.length : Nat)) : Int) | none => Zhn) := by
 intro d
 induction d with
 | zero =>
  intro k Zhn hk hle
  rw [ZaV, if_neg (by rw [decide_eq_true_iff]; omega), List.drop_eq_nil_of_le (by rw [sz]; omega)]; rfl
 | succ d ih =>
  intro k Zhn hk hle
  have hlt : k < s.size := by omega
  obtain ⟨y, hy⟩ : ∃ y, s.data.toList[k]? = some y := ⟨_, List.getElem?_eq_getElem (by rw [sz]; exact hlt)⟩
  rw [ZaV, if_pos (by rw [decide_eq_true_iff]; omega), Zd5, hy, Zm, show (36 : Int) = ((36 : Nat) : Int) from rfl, Zdt, Ziv hy]
  have e : spd (y :: s.data.toList.drop (k + 1)) = match spd (s.data.toList.drop (k + 1)) with | some p => some (y :: p.1, p.2) | none => if y.toNat = 36 then some ([], s.data.toList.drop (k + 1)) else none := by rw [spd]; (try (cases spd (s.data.toList.drop (k + 1)) <;> rfl))
  rw [e]
  by_cases h : y.toNat = 36
  ·rw [if_pos (by rw [beq_iff_eq]; exact h), Zc0 _ (by omega), ih (k + 1) _ (by omega) (by omega), if_pos h]
   cases spd (s.data.toList.drop (k + 1)) with
   | none => rfl
   | some p => simp only [List.length_cons]; congr 1; omega
  ·rw [if_neg (by rw [beq_iff_eq]; exact h), Zc0 _ (by omega), ih (k + 1) _ (by omega) (by omega), if_neg h]
   cases spd (s.data.toList.drop (k + 1)) with
   | none => rfl
   | some p => simp only [List.length_cons]; congr 1; omega
theorem Zu5 (s : ByteArray) (hs : s.size ≤ 1000000000) : Zcv s = some (Zfo s) := by
 unfold Zcv Zfo
 rw [ZAj s hs _ 0 (-1) rfl (by omega), List.drop_zero]
 cases hd : spd s.data.toList with
 | none => rfl
 | some p =>
  obtain ⟨b, hb, hl⟩ := Zrw hd
  have hlen : s.size = p.1.length + 1 + p.2.length := by rw [← sz, hl]; simp; omega
  obtain ⟨t1, t2⟩ := Zt4 p.1 b p.2
  have ha : slS s (((p.1.length + 1 : Nat) : Int)) ((s.size : Nat) : Int) = some (mkB p.2) := by
   rw [Znj s _ _ (by omega) (by omega)]
   congr 1
   refine Ze5 ?_
   rw [ZeU, Zeg, hl, t2]
   exact List.take_of_length_le (by omega)
  have hz : slS s ((0 : Nat) : Int) ((p.1.length : Nat) : Int) = some (mkB p.1) := by
   rw [Znj s _ _ (by omega) (by omega)]
   congr 1
   refine Ze5 ?_
   rw [ZeU, Zeg, hl]
   exact t1
  simp only [Nat.zero_add]
  unfold ZE8
  rw [decide_eq_false (by omega), orF, hz, Zm, Zy3 _ (by rw [Zj8]; omega), Zm, Zm, Zc8 (by omega), ha]
  cases Zhh (mkB p.1) with
  | false => rw [Bool.not_false, ifT, Bool.false_and, ifF]
  | true =>
   rw [Bool.not_true, ifF, Zm, Zzv _ (by rw [Zj8]; omega), Zm, Zeg, Bool.true_and]
   cases ZhW p.2 with
   | false => rfl
   | true => rfl
def Zhk (s : ByteArray) : Bool := if (Zfo s).2.2 = true then Zdi (Zfo s).1.data.toList == 1 else (Zdi s.data.toList == 1 && !(s.toList == [102, 111, 114, 97, 108, 108]))
theorem Ztb (s : ByteArray) (hs : s.size ≤ 1000000000) : ZcS s = some (if Zdi s.data.toList = 0 then (if (Zfo s).2.2 = true then 7 else 0) else Zdi s.data.toList) := by
 unfold ZcS Zdi
 rw [ZBN, Zm, Zzu, ZvO, Zro]
 cases hw : Zhp s.data.toList with
 | true =>
  obtain ⟨c, r, hl, hb⟩ := Zn2 (ZgE hw).1
  have hns : ZeR.contains s.data.toList = false := by
   cases h : ZeR.contains s.data.toList with
   | false => rfl
   | true => have := Zpo h; rw [Zh5 hw] at this; cases this
  cases Zc3.contains s.data.toList with
  | true => rfl
  | false =>
   rw [ifF, Zm, hns, ifF, Zm, hb, Zy4, Zm, ZCg, Zm, Zm, Zm, ifT, ifT, ifF]
   have hu : Zh7 s.data.toList = ZhG c := by rw [hl]; rfl
   rw [hu]
   cases ZhG c <;> rfl
 | false =>
  have hnr : Zc3.contains s.data.toList = false := by
   cases h : Zc3.contains s.data.toList with
   | false => rfl
   | true => have := ZAH h; rw [hw] at this; cases this
  rw [hnr, ifF, Zm, ifF]
  cases hsy : Zek s.data.toList with
  | true =>
   obtain ⟨c, r, hl, hb⟩ := Zn2 (Zl8 hsy).1
   have hu : ZpY s.data.toList = (c.toNat == 58) := by rw [hl]; rfl
   rw [hu]
   cases ZeR.contains s.data.toList with
   | true => rfl
   | false =>
    rw [ifF, Zm, ZDX, ifF, Zm, ifF, Zm, hb, Zy4, Zm, show (58 : Int) = ((58 : Nat) : Int) from rfl, Zdt, Zm, Zm, ifT, ifT, ifF]
    cases (c.toNat == 58) <;> rfl
  | false =>
   have hnr2 : ZeR.contains s.data.toList = false := by
    cases h : ZeR.contains s.data.toList with
    | false => rfl
    | true => have := Zpo h; rw [hsy] at this; cases this
   rw [hnr2, ifF, Zm, ZDX, ifF, Zm, ifF, Zm, ZDX, ifF, Zm, ifF, ZvS s hs, Zm]
   cases (Zfo s).2.2 <;> rfl

theorem ZoJ (s : ByteArray) : (Zfo s).1.size ≤ s.size := by
 unfold Zfo
 cases hd : spd s.data.toList with
 | none => exact Nat.zero_le _
 | some p =>
  obtain ⟨b, hb, hl⟩ := Zrw hd
  have hlen : s.size = p.1.length + 1 + p.2.length := by rw [← sz, hl]; simp; omega
  simp only
  split
  ·show (mkB p.1).size ≤ _; rw [Zj8]; omega
  ·exact Nat.zero_le _
theorem Zwr : ∀ {l : List UInt8} {p : List UInt8 × List UInt8}, spl l = some p → p.1.length + p.2.length < l.length
 | [], p, h => by cases h
 | b :: l, p, h => by
  unfold spl at h
  split at h
  ·injection h with h; subst h; simp
  ·obtain ⟨q, hq, rfl⟩ := Option.map_eq_some_iff.1 h
   have := Zwr hq
   simp only [List.length_cons]; omega
theorem Zvh (s : ByteArray) : (ZhL s).2.1.size ≤ s.size := by
 unfold ZhL
 cases hd : spl s.data.toList with
 | none => exact Nat.zero_le _
 | some p =>
  have := Zwr hd
  rw [sz] at this
  simp only
  split
  ·show (mkB p.2).size ≤ _; rw [Zj8]; omega
  ·exact Nat.zero_le _
theorem Zto (s : ByteArray) (k : Int) (h0 : k ≠ 0) (h7 : k ≠ 7) : ((if Zdi s.data.toList = 0 then (if (Zfo s).2.2 = true then (7 : Int) else 0) else Zdi s.data.toList) == k) = (Zdi s.data.toList == k) := by
 by_cases h : Zdi s.data.toList = 0
 ·rw [if_pos h, h]
  have e0 : ((0 : Int) == k) = false := by rw [beq_eq_false_iff_ne]; exact fun e => h0 e.symm
  have e7 : ((7 : Int) == k) = false := by rw [beq_eq_false_iff_ne]; exact fun e => h7 e.symm
  split
  ·rw [e7, e0]
  ·rfl
 ·rw [if_neg h]
theorem ZAn (s : ByteArray) (hs : s.size ≤ 1000000000) : ZaW s = some (Zhk s) := by
 unfold ZaW Zhk
 rw [ZvS s hs, Zm]
 cases (Zfo s).2.2 with
 | true =>
  have := ZoJ s
  rw [ifT, ifT, Ztb _ (by omega), Zm, Zto _ 1 (by decide) (by decide)]
 | false =>
  rw [ifF, ifF, Ztb _ hs, Zm, Zto _ 1 (by decide) (by decide), ZaY (ByteArray.mk #[102, 111, 114, 97, 108, 108])]
theorem Zxj (s : ByteArray) (hs : s.size ≤ 1000000000) : Zbi s = some (Zhk s) := by
 unfold Zbi Zhk
 rw [Zu5 s hs, Zm]
 cases (Zfo s).2.2 with
 | true => rw [ifT, ifT, Zmg, Zm]
 | false => rw [ifF, ifF, Zmg, Zm, ZaY (ByteArray.mk #[102, 111, 114, 97, 108, 108])]
def unS (b : ByteArray) : ByteArray := if (ZhL b).2.2 = true then (ZhL b).2.1 else b
def Zvx (s : ByteArray) : Bool :=
 let b := unS (if (Zfo s).2.2 = true then (Zfo s).1 else s)
 (Zdi b.data.toList == 2) || (Zdi b.data.toList == 4)
theorem ZzM (b : ByteArray) (hs : b.size ≤ 1000000000) : ZcE b = some ((Zdi b.data.toList == 2) || (Zdi b.data.toList == 4)) := by
 unfold ZcE
 rw [Ztb b hs, Zm, Zto _ 2 (by decide) (by decide), Zto _ 4 (by decide) (by decide)]
theorem Zy2 (b : ByteArray) (hs : b.size ≤ 1000000000) : ZcF b = some ((Zdi (unS b).data.toList == 2) || (Zdi (unS b).data.toList == 4)) := by
 unfold ZcF unS
 rw [Zwq b hs, Zm]
 cases (ZhL b).2.2 with
 | true => have := Zvh b; rw [ifT, ifT, ZzM _ (by omega)]
 | false => rw [ifF, ifF, ZzM _ hs]
theorem ZFG (s : ByteArray) (hs : s.size ≤ 1000000000) : ZdY s = some (Zvx s) := by
 unfold ZdY Zvx
 rw [ZvS s hs, Zm]
 cases (Zfo s).2.2 with
 | true => have := ZoJ s; rw [ifT, Zy2 _ (by omega)]; rfl
 | false => rw [ifF, Zy2 _ hs]; rfl
theorem ZyN (b : ByteArray) : Za6 b = some ((Zdi b.data.toList == 2) || (Zdi b.data.toList == 4)) := by
 unfold Za6
 rw [Zmg, Zm]
theorem Zy1 (b : ByteArray) (hs : b.size ≤ 1000000000) : Za7 b = some ((Zdi (unS b).data.toList == 2) || (Zdi (unS b).data.toList == 4)) := by
 unfold Za7 unS
 rw [ZwK b hs, Zm]
 cases (ZhL b).2.2 with
 | true => rw [ifT, ifT, ZyN]
 | false => rw [ifF, ifF, ZyN]
theorem ZEh (s : ByteArray) (hs : s.size ≤ 1000000000) : Zcc s = some (Zvx s) := by
 unfold Zcc Zvx
 rw [Zu5 s hs, Zm]
 cases (Zfo s).2.2 with
 | true => have := ZoJ s; rw [Bool.not_true, ifF, Zy1 _ (by omega)]; rfl
 | false => rw [Bool.not_false, ifT, Zy1 _ hs]; rfl

theorem ZCd {s : ByteArray} {k : Nat} {y : UInt8} (h : s.data.toList[k]? = some y) : s.get! k = y := by
 obtain ⟨h1, h2⟩ := List.getElem?_eq_some_iff.1 h
 have hk : k < s.data.size := by simpa using h1
 show s.data[k]! = y
 rw [getElem!_pos s.data k hk]
 simpa using h2
theorem ZxU (s : ByteArray) {k : Nat} {y : UInt8} (h : s.data.toList[k]? = some y) : ((Utf8.decode s k).1 = 44 ↔ y.toNat = 44) ∧ (y.toNat = 44 → (Utf8.decode s k).2 = 1) := by
 have hy := ZCd h
 have hre : Utf8.runeError ≠ 44 := by decide
 unfold Utf8.decode
 simp only [Nat.add_zero, hy]
 by_cases h1 : y.toNat < 128
 ·rw [if_pos h1]; exact ⟨Iff.rfl, fun _ => rfl⟩
 ·rw [if_neg h1]
  refine ⟨⟨fun h2 => ?_, fun h2 => by omega⟩, fun h2 => by omega⟩
  exfalso
  revert h2
  repeat' split
  all_goals first | (intro h2; exact hre h2) | (intro h2; simp only at h2; simp_all; done) | (intro h2; simp only at h2; rename_i q; simp only [Bool.and_eq_true, decide_eq_true_iff] at q; omega) | (intro h2; simp only at h2; rename_i q; omega)
theorem ZAN (z : ByteArray) : ∀ (d k : Nat), z.size - k = d → ZbP z k = some ((z.data.toList.drop k).all fun c => c.toNat == 44) := by
 intro d
 induction d with
 | zero =>
  intro k hk
  rw [ZbP, if_neg (by rw [decide_eq_true_iff]; omega), List.drop_eq_nil_of_le (by rw [sz]; omega)]; rfl
 | succ d ih =>
  intro k hk
  obtain ⟨y, hy⟩ : ∃ y, z.data.toList[k]? = some y := ⟨_, List.getElem?_eq_getElem (by rw [sz]; omega)⟩
  obtain ⟨h1, h2⟩ := ZxU z hy
  rw [ZbP, if_pos (by rw [decide_eq_true_iff]; omega), Ziv hy, List.all_cons, show (44 : Int) = ((44 : Nat) : Int) from rfl, bne, Zdt]
  by_cases h : y.toNat = 44
  ·rw [h1.2 h, h2 h, ih (k + 1) (by omega), h]; rfl
  ·have e : ((Utf8.decode z k).1 == 44) = false := by rw [beq_eq_false_iff_ne]; exact fun q => h (h1.1 q)
   have e2 : (y.toNat == 44) = false := by rw [beq_eq_false_iff_ne]; exact h
   rw [e, e2]; rfl

def ZsZ (j : Nat) : List UInt8 := 40 :: (List.replicate j 44 ++ [41])
theorem ZtT (j : Nat) : (ZsZ j).length = j + 2 := by unfold ZsZ; simp
def ZrW (l : List UInt8) : Bool := (List.range 6).any fun j => l == ZsZ (j + 1)
theorem shape {l : List UInt8} {a b : UInt8} (h3 : 3 ≤ l.length) (ha : l[0]? = some a) (hb : l[l.length - 1]? = some b) : l = a :: ((l.drop 1).take (l.length - 2) ++ [b]) := by
 cases l with
 | nil => simp at h3
 | cons c t =>
  have hc : c = a := by simpa using ha
  subst hc
  have ht : t ≠ [] := by intro h; subst h; simp at h3
  have hlast : t.getLast ht = b := by
   rw [List.getLast_eq_getElem]
   have : (c :: t)[(c :: t).length - 1]? = t[t.length - 1]? := by
    have e : (c :: t).length - 1 = (t.length - 1) + 1 := by simp only [List.length_cons] at h3 ⊢; omega
    rw [e, List.getElem?_cons_succ]
   rw [this] at hb
   exact (List.getElem?_eq_some_iff.1 hb).2
  have e2 : (c :: t).length - 2 = t.length - 1 := by simp only [List.length_cons]; omega
  rw [e2]
  show c :: t = c :: (t.take (t.length - 1) ++ [b])
  rw [← List.dropLast_eq_take, ← hlast, List.dropLast_concat_getLast]
theorem ZBl {l : List UInt8} {a b : UInt8} (h3 : 3 ≤ l.length) (h8 : l.length ≤ 8) (ha : l[0]? = some a) (hb : l[l.length - 1]? = some b) :
  ZrW l = (a.toNat == 40 && b.toNat == 41 && ((l.drop 1).take (l.length - 2)).all fun c => c.toNat == 44) := by
 have hs := shape h3 ha hb
 have hml : ((l.drop 1).take (l.length - 2)).length = l.length - 2 := by rw [List.length_take, List.length_drop]; omega
 rw [Bool.eq_iff_iff]
 unfold ZrW
 rw [List.any_eq_true, Bool.and_eq_true, Bool.and_eq_true, beq_iff_eq, beq_iff_eq, List.all_eq_true]
 constructor
 ·rintro ⟨j, hj, h⟩
  rw [beq_iff_eq] at h
  have hl := congrArg List.length h
  rw [ZtT] at hl
  have hj2 : l.length - 2 = j + 1 := by omega
  rw [hj2] at hs ⊢
  rw [h] at hs
  unfold ZsZ at hs
  injection hs with h1 h2
  have h4 := List.append_inj h2 (by rw [List.length_replicate, List.length_take, List.length_drop]; simp)
  refine ⟨⟨by rw [← h1]; rfl, ?_⟩, fun x hx => ?_⟩
  ·have := h4.2; injection this with h5; rw [← h5]; rfl
  ·rw [h] at hx
   unfold ZsZ at hx
   rw [← h4.1] at hx
   rw [List.eq_of_mem_replicate hx]; rfl
 ·rintro ⟨⟨h1, h2⟩, h4⟩
  refine ⟨l.length - 3, List.mem_range.2 (by omega), ?_⟩
  rw [beq_iff_eq]
  have ZGr : a = 40 := UInt8.toNat_inj.1 h1
  have ZH0 : b = 41 := UInt8.toNat_inj.1 h2
  have hm : (l.drop 1).take (l.length - 2) = List.replicate (l.length - 2) 44 := by
   refine List.eq_replicate_iff.2 ⟨hml, fun x hx => ?_⟩
   have := h4 x hx
   rw [beq_iff_eq] at this
   exact UInt8.toNat_inj.1 this
  rw [hm, ZGr, ZH0] at hs
  unfold ZsZ
  rw [show l.length - 3 + 1 = l.length - 2 from by omega]
  exact hs
def Zue (l : List UInt8) : Bool := (l == [45, 62] || l == [91, 93]) || l == [40, 41]
theorem ZGa (s : ByteArray) (hs : s.size ≤ 1000000000) : ZdX s = some (Zue s.data.toList || ZrW s.data.toList) := by
 unfold ZdX
 have e0 : (((s.toList == (ByteArray.mk #[45, 62]).toList) || (s.toList == (ByteArray.mk #[91, 93]).toList)) || (s.toList == (ByteArray.mk #[40, 41]).toList)) = Zue s.data.toList := by
  rw [ZaY, ZaY, ZaY, ZaY]; rfl
 rw [e0]
 cases Zue s.data.toList with
 | true => rfl
 | false =>
  rw [ifF, Bool.false_or]
  by_cases hn : 3 ≤ s.size ∧ s.size ≤ 8
  ·have hlen : s.data.toList.length = s.size := sz s
   obtain ⟨a, ha⟩ : ∃ a, s.data.toList[0]? = some a := ⟨_, List.getElem?_eq_getElem (by omega)⟩
   obtain ⟨b, hb⟩ : ∃ b, s.data.toList[s.size - 1]? = some b := ⟨_, List.getElem?_eq_getElem (by omega)⟩
   have hc : (decide (((s.size : Nat) : Int) < 3) || decide (((s.size : Nat) : Int) > 8)) = false := by
    rw [Bool.or_eq_false_iff]; exact ⟨decide_eq_false (by omega), decide_eq_false (by omega)⟩
   have hb0 : btI s 0 = some a := by have := Zd5 s 0; rw [ha] at this; exact this
   have e1 : IntKind.i64.wrap (((s.size : Nat) : Int) - 1) = ((s.size - 1 : Nat) : Int) := by rw [w64 (by omega) (by omega)]; omega
   rw [ZBl (by omega) (by omega) ha (by rw [hlen]; exact hb), hc, orF, hb0, Zm, Zm, show (40 : Int) = ((40 : Nat) : Int) from rfl, bne, Zdt]
   cases h40 : (a.toNat == 40) with
   | false => rw [Bool.not_false, orT, ifT]; rfl
   | true =>
    rw [Bool.not_true, orF, e1, Zd5, hb, Zm, Zm, show (41 : Int) = ((41 : Nat) : Int) from rfl, bne, Zdt]
    cases h41 : (b.toNat == 41) with
    | false => rw [Bool.not_false, ifT]; rfl
    | true =>
     have hsl : slS s 1 ((s.size - 1 : Nat) : Int) = some (s.extract 1 (s.size - 1)) := Znj s 1 (s.size - 1) (by omega) (by omega)
     rw [Bool.not_true, ifF, hsl, Zm, ZAN _ _ 0 rfl, List.drop_zero, ZeU, hlen, show s.size - 1 - 1 = s.size - 2 from by omega]; rfl
  ·have hc : (decide (((s.size : Nat) : Int) < 3) || decide (((s.size : Nat) : Int) > 8)) = true := by
    rw [Bool.or_eq_true, decide_eq_true_iff, decide_eq_true_iff]; omega
   rw [hc, orT, orT, ifT]
   have : ZrW s.data.toList = false := by
    cases h : ZrW s.data.toList with
    | false => rfl
    | true =>
     unfold ZrW at h
     rw [List.any_eq_true] at h
     obtain ⟨j, hj, h⟩ := h
     rw [beq_iff_eq] at h
     have hl := congrArg List.length h
     rw [ZtT, sz] at hl
     have := List.mem_range.1 hj
     omega
   rw [this]

theorem ZH4 (n : Nat) (hn : n ≤ 1000) : ∀ (d i : Nat) (s : ByteArray), n - i = d → i ≤ n → s.size ≤ i + 1 → Zan ((n : Nat) : Int) s i = some (mkB (s.data.toList ++ (List.replicate (n - i) 44 ++ [41]))) := by
 have e41 : (ByteArray.mk #[41]).size = 1 := rfl
 have e44 : (ByteArray.mk #[44]).size = 1 := rfl
 intro d
 induction d with
 | zero =>
  intro i s hd hi hs
  rw [Zan, if_neg (by rw [decide_eq_true_iff]; omega), Zc0 _ (by rw [ZoC, e41]; omega), show n - i = 0 from by omega]
  exact congrArg some (Ze5 (by rw [Zi3, Zeg]; rfl))
 | succ d ih =>
  intro i s hd hi hs
  rw [Zan, if_pos (by rw [decide_eq_true_iff]; omega), Zc0 _ (by rw [ZoC, e44]; omega), Zc0 _ (by omega), ih (i + 1) _ (by omega) (by omega) (by rw [ZqO, e44]; omega)]
  congr 2
  rw [Zi3, show n - i = (n - (i + 1)) + 1 from by omega, List.replicate_succ, List.append_assoc]; rfl
theorem tn (n : Nat) (h1 : 1 ≤ n) (hn : n ≤ 1000) : ZbV ((n : Nat) : Int) = some (mkB (ZsZ (n - 1))) := by
 unfold ZbV
 rw [ZH4 n hn _ 1 _ rfl h1 (by decide)]
 rfl
theorem ZHN (s : ByteArray) : ∀ (d k : Nat), 8 - k = d → 2 ≤ k → k ≤ 8 → ∃ r, Za3 s k = some r ∧ decide (r > 0) = (List.range' k (8 - k)).any fun j => s.data.toList == ZsZ (j - 1) := by
 intro d
 induction d with
 | zero =>
  intro k hd h2 h8
  refine ⟨0, ?_, ?_⟩
  ·rw [Za3, if_neg (by rw [decide_eq_true_iff]; omega)]
  ·rw [hd]; rfl
 | succ d ih =>
  intro k hd h2 h8
  obtain ⟨r, hr, hr2⟩ := ih (k + 1) (by omega) (by omega) (by omega)
  rw [Za3, if_pos (by rw [decide_eq_true_iff]; omega), tn k (by omega) (by omega), Zm, ZaY, ZaY, Zeg]
  have e : List.range' k (8 - k) = k :: List.range' (k + 1) (8 - (k + 1)) := by rw [show 8 - k = (8 - (k + 1)) + 1 from by omega]; exact List.range'_succ ..
  rw [e, List.any_cons]
  cases h : (s.data.toList == ZsZ (k - 1)) with
  | true => exact ⟨_, by rw [ifT], by rw [Bool.true_or]; exact decide_eq_true (by omega)⟩
  | false => exact ⟨r, by rw [ifF, Zc0 _ (by omega), hr], by rw [Bool.false_or, hr2]⟩
theorem ZBo (s : ByteArray) : ∃ r, Zdl s = some r ∧ decide (r > 0) = ZrW s.data.toList := by
 obtain ⟨r, h1, h2⟩ := ZHN s 6 2 rfl (by omega) (by omega)
 refine ⟨r, h1, h2.trans ?_⟩
 unfold ZrW
 rfl
def ZxN (s : ByteArray) : Bool := (Zue s.data.toList || ZrW s.data.toList) || Zvx s
theorem ZFt (s : ByteArray) (hs : s.size ≤ 1000000000) : Zcq s = some (ZxN s) := by
 unfold Zcq ZxN
 have e0 : ∀ o : Bool, (((o || (s.toList == (ByteArray.mk #[45, 62]).toList)) || (s.toList == (ByteArray.mk #[91, 93]).toList)) || (s.toList == (ByteArray.mk #[40, 41]).toList)) = (o || Zue s.data.toList) := fun o => by
  rw [ZaY, ZaY, ZaY, ZaY]
  unfold Zue
  simp only [Bool.or_assoc]
 obtain ⟨r, h1, h2⟩ := ZBo s
 rw [ZEh s hs, Zm, e0, h1]
 cases Zvx s with
 | true => rw [Bool.true_or, orT, Bool.or_true]
 | false =>
  rw [Bool.false_or, Bool.or_false]
  cases Zue s.data.toList with
  | true => rfl
  | false => rw [orF, Zm, Zm, h2, Bool.false_or]

mutual
def Za.nod : Za → Nat | .mk _ _ _ ks => 1 + Za.nods ks
def Za.nods : List Za → Nat
 | [] => 0
 | k :: ks => Za.nod k + Za.nods ks
end
mutual
def Zi.nod : Zi → Nat | .mk ks => 1 + Zi.nods ks
def Zi.nods : List Zi → Nat
 | [] => 0
 | k :: ks => Zi.nod k + Zi.nods ks
end
theorem Zgu (t : Za) : t.nod = 1 + Za.nods t.fKids := by cases t; rw [Za.nod]; rfl
theorem ZkG (t : Zi) : t.nod = 1 + Zi.nods t.fArgs := by cases t; rw [Zi.nod]; rfl
theorem ZcC (k : Za) (ks : List Za) : Za.nods (k :: ks) = k.nod + Za.nods ks := by rw [Za.nods]
theorem ZgA (k : Zi) (ks : List Zi) : Zi.nods (k :: ks) = k.nod + Zi.nods ks := by rw [Zi.nods]
def BIG : Nat := 1000000000000
theorem Zul (t : Za) : ∀ (xs : List Za) (n x : Nat), (∀ k ∈ xs, k.nod ≤ BIG → Zcg k = some ((k.nod : Nat) : Int)) → n + Za.nods xs ≤ BIG → Zc1 ((n : Nat) : Int) t x xs = some ((n + Za.nods xs : Nat) : Int)
 | [], n, x, _, _ => by rw [Zc1, Za.nods]; rfl
 | k :: xs, n, x, h, hb => by
  rw [ZcC] at hb ⊢
  have hB : BIG = 1000000000000 := rfl
  rw [Zc1, h k (by simp) (by omega), Zm, w64 (by omega) (by omega)]
  have := Zul t xs (n + k.nod) (x + 1) (fun j hj => h j (by simp [hj])) (by omega)
  rw [show ((n : Nat) : Int) + ((k.nod : Nat) : Int) = ((n + k.nod : Nat) : Int) from by omega, this, Nat.add_assoc]
theorem ZAy (t : Za) : t.nod ≤ BIG → Zcg t = some ((t.nod : Nat) : Int) := by
 refine Za.ind (M := fun t => t.nod ≤ BIG → Zcg t = some ((t.nod : Nat) : Int)) (fun v ih hb => ?_) t
 rw [Zgu] at hb ⊢
 rw [Zcg]
 exact Zul v v.fKids 1 0 ih hb
theorem Zug (t : Za) : ∀ (xs : List Za) (n x : Nat), (∀ k ∈ xs, k.nod ≤ BIG → Zai k = some ((k.nod : Nat) : Int)) → n + Za.nods xs ≤ BIG → Zbz ((n : Nat) : Int) x t xs = some ((n + Za.nods xs : Nat) : Int)
 | [], n, x, _, _ => by rw [Zbz, Za.nods]; rfl
 | k :: xs, n, x, h, hb => by
  rw [ZcC] at hb ⊢
  have hB : BIG = 1000000000000 := rfl
  rw [Zbz, h k (by simp) (by omega), Zm, w64 (by omega) (by omega)]
  have := Zug t xs (n + k.nod) (x + 1) (fun j hj => h j (by simp [hj])) (by omega)
  rw [show ((n : Nat) : Int) + ((k.nod : Nat) : Int) = ((n + k.nod : Nat) : Int) from by omega, this, Nat.add_assoc]
theorem ZqS (t : Za) : t.nod ≤ BIG → Zai t = some ((t.nod : Nat) : Int) := by
 refine Za.ind (M := fun t => t.nod ≤ BIG → Zai t = some ((t.nod : Nat) : Int)) (fun v ih hb => ?_) t
 rw [Zgu] at hb ⊢
 rw [Zai]
 exact Zug v v.fKids 1 0 ih hb
theorem ZsE (t : Zi) : ∀ (xs : List Zi) (n x : Nat), (∀ k ∈ xs, k.nod ≤ BIG → Zbv k = some ((k.nod : Nat) : Int)) → n + Zi.nods xs ≤ BIG → ZbR ((n : Nat) : Int) t x xs = some ((n + Zi.nods xs : Nat) : Int)
 | [], n, x, _, _ => by rw [ZbR, Zi.nods]; rfl
 | k :: xs, n, x, h, hb => by
  rw [ZgA] at hb ⊢
  have hB : BIG = 1000000000000 := rfl
  rw [ZbR, h k (by simp) (by omega), Zm, w64 (by omega) (by omega)]
  have := ZsE t xs (n + k.nod) (x + 1) (fun j hj => h j (by simp [hj])) (by omega)
  rw [show ((n : Nat) : Int) + ((k.nod : Nat) : Int) = ((n + k.nod : Nat) : Int) from by omega, this, Nat.add_assoc]
theorem ZBk (t : Zi) : t.nod ≤ BIG → Zbv t = some ((t.nod : Nat) : Int) := by
 refine Zi.ind (M := fun t => t.nod ≤ BIG → Zbv t = some ((t.nod : Nat) : Int)) (fun v ih hb => ?_) t
 rw [ZkG] at hb ⊢
 rw [Zbv]
 exact ZsE v v.fArgs 1 0 ih hb
theorem Zr3 (t : Zi) : ∀ (xs : List Zi) (n x : Nat), (∀ k ∈ xs, k.nod ≤ BIG → Zak k = some ((k.nod : Nat) : Int)) → n + Zi.nods xs ≤ BIG → ZaJ ((n : Nat) : Int) x t xs = some ((n + Zi.nods xs : Nat) : Int)
 | [], n, x, _, _ => by rw [ZaJ, Zi.nods]; rfl
 | k :: xs, n, x, h, hb => by
  rw [ZgA] at hb ⊢
  have hB : BIG = 1000000000000 := rfl
  rw [ZaJ, h k (by simp) (by omega), Zm, w64 (by omega) (by omega)]
  have := Zr3 t xs (n + k.nod) (x + 1) (fun j hj => h j (by simp [hj])) (by omega)
  rw [show ((n : Nat) : Int) + ((k.nod : Nat) : Int) = ((n + k.nod : Nat) : Int) from by omega, this, Nat.add_assoc]
theorem ZAS (t : Zi) : t.nod ≤ BIG → Zak t = some ((t.nod : Nat) : Int) := by
 refine Zi.ind (M := fun t => t.nod ≤ BIG → Zak t = some ((t.nod : Nat) : Int)) (fun v ih hb => ?_) t
 rw [ZkG] at hb ⊢
 rw [Zak]
 exact Zr3 v v.fArgs 1 0 ih hb

mutual
def Za.dep : Za → Nat | .mk _ _ _ ks => Za.deps ks + 1
def Za.deps : List Za → Nat
 | [] => 0
 | k :: ks => max (Za.dep k) (Za.deps ks)
end
mutual
def Zi.dep : Zi → Nat | .mk ks => Zi.deps ks + 1
def Zi.deps : List Zi → Nat
 | [] => 0
 | k :: ks => max (Zi.dep k) (Zi.deps ks)
end
theorem Zk5 (t : Za) : t.dep = Za.deps t.fKids + 1 := by cases t; rw [Za.dep]; rfl
theorem ZsJ (t : Zi) : t.dep = Zi.deps t.fArgs + 1 := by cases t; rw [Zi.dep]; rfl
theorem Ze6 (k : Za) (ks : List Za) : Za.deps (k :: ks) = max k.dep (Za.deps ks) := by rw [Za.deps]
theorem Zm7 (k : Zi) (ks : List Zi) : Zi.deps (k :: ks) = max k.dep (Zi.deps ks) := by rw [Zi.deps]
theorem Zmq (t : Za) : t.dep ≤ t.nod := by
 refine Za.ind (M := fun t => t.dep ≤ t.nod) (fun v ih => ?_) t
 have key : ∀ l : List Za, (∀ k ∈ l, k.dep ≤ k.nod) → Za.deps l ≤ Za.nods l := fun l => by
  induction l with
  | nil => intro _; rw [Za.deps, Za.nods]; exact Nat.le_refl _
  | cons k ks ihl => intro h; rw [Ze6, ZcC]; have h1 := h k (by simp); have h2 := ihl fun j hj => h j (by simp [hj]); omega
 have := key v.fKids ih
 rw [Zk5, Zgu]; omega
theorem ZtW (t : Zi) : t.dep ≤ t.nod := by
 refine Zi.ind (M := fun t => t.dep ≤ t.nod) (fun v ih => ?_) t
 have key : ∀ l : List Zi, (∀ k ∈ l, k.dep ≤ k.nod) → Zi.deps l ≤ Zi.nods l := fun l => by
  induction l with
  | nil => intro _; rw [Zi.deps, Zi.nods]; exact Nat.le_refl _
  | cons k ks ihl => intro h; rw [Zm7, ZgA]; have h1 := h k (by simp); have h2 := ihl fun j hj => h j (by simp [hj]); omega
 have := key v.fArgs ih
 rw [ZsJ, ZkG]; omega
theorem Zfe (a b : Nat) : (if ((a : Nat) : Int) > ((b : Nat) : Int) then ((a : Nat) : Int) else ((b : Nat) : Int)) = ((max b a : Nat) : Int) := by
 split <;> omega
theorem Zsr (t : Za) : ∀ (xs : List Za) (n x : Nat), (∀ k ∈ xs, k.nod ≤ BIG → ZbU k = some ((k.dep : Nat) : Int)) → Za.nods xs ≤ BIG → n ≤ BIG → ZcO ((n : Nat) : Int) t x xs = some ((max n (Za.deps xs) + 1 : Nat) : Int)
 | [], n, x, _, _, hn => by
  have hB : BIG = 1000000000000 := rfl
  rw [ZcO, Za.deps, w64 (by omega) (by omega)]
  rw [Nat.max_eq_left (Nat.zero_le _)]; rfl
 | k :: xs, n, x, h, hb, hn => by
  rw [ZcC] at hb
  rw [Ze6]
  have hd := Zmq k
  have hB : BIG = 1000000000000 := rfl
  rw [ZcO, h k (by simp) (by omega), Zm, Zfe]
  rw [Zsr t xs (max n k.dep) (x + 1) (fun j hj => h j (by simp [hj])) (by omega) (by omega), Nat.max_assoc]
theorem Zw1 (t : Za) : t.nod ≤ BIG → ZbU t = some ((t.dep : Nat) : Int) := by
 refine Za.ind (M := fun t => t.nod ≤ BIG → ZbU t = some ((t.dep : Nat) : Int)) (fun v ih hb => ?_) t
 rw [Zgu] at hb
 rw [Zk5, ZbU]
 have := Zsr v v.fKids 0 0 ih (by omega) (Nat.zero_le _)
 rw [Nat.max_eq_right (Nat.zero_le _)] at this
 exact this
theorem Zsx (t : Za) : ∀ (xs : List Za) (n x : Nat), (∀ k ∈ xs, k.nod ≤ BIG → Zaf k = some ((k.dep : Nat) : Int)) → Za.nods xs ≤ BIG → n ≤ BIG → Zbo ((n : Nat) : Int) x t xs = some ((max n (Za.deps xs) + 1 : Nat) : Int)
 | [], n, x, _, _, hn => by
  have hB : BIG = 1000000000000 := rfl
  rw [Zbo, Za.deps, w64 (by omega) (by omega)]
  rw [Nat.max_eq_left (Nat.zero_le _)]; rfl
 | k :: xs, n, x, h, hb, hn => by
  rw [ZcC] at hb
  rw [Ze6]
  have hd := Zmq k
  have hB : BIG = 1000000000000 := rfl
  rw [Zbo, h k (by simp) (by omega), Zm, Zfe]
  rw [Zsx t xs (max n k.dep) (x + 1) (fun j hj => h j (by simp [hj])) (by omega) (by omega), Nat.max_assoc]
theorem ZnM (t : Za) : t.nod ≤ BIG → Zaf t = some ((t.dep : Nat) : Int) := by
 refine Za.ind (M := fun t => t.nod ≤ BIG → Zaf t = some ((t.dep : Nat) : Int)) (fun v ih hb => ?_) t
 rw [Zgu] at hb
 rw [Zk5, Zaf]
 have := Zsx v v.fKids 0 0 ih (by omega) (Nat.zero_le _)
 rw [Nat.max_eq_right (Nat.zero_le _)] at this
 exact this
theorem Zq1 (t : Zi) : ∀ (xs : List Zi) (n x : Nat), (∀ k ∈ xs, k.nod ≤ BIG → Zbf k = some ((k.dep : Nat) : Int)) → Zi.nods xs ≤ BIG → n ≤ BIG → ZbD ((n : Nat) : Int) t x xs = some ((max n (Zi.deps xs) + 1 : Nat) : Int)
 | [], n, x, _, _, hn => by
  have hB : BIG = 1000000000000 := rfl
  rw [ZbD, Zi.deps, w64 (by omega) (by omega)]
  rw [Nat.max_eq_left (Nat.zero_le _)]; rfl
 | k :: xs, n, x, h, hb, hn => by
  rw [ZgA] at hb
  rw [Zm7]
  have hd := ZtW k
  have hB : BIG = 1000000000000 := rfl
  rw [ZbD, h k (by simp) (by omega), Zm, Zfe]
  rw [Zq1 t xs (max n k.dep) (x + 1) (fun j hj => h j (by simp [hj])) (by omega) (by omega), Nat.max_assoc]
theorem ZAe (t : Zi) : t.nod ≤ BIG → Zbf t = some ((t.dep : Nat) : Int) := by
 refine Zi.ind (M := fun t => t.nod ≤ BIG → Zbf t = some ((t.dep : Nat) : Int)) (fun v ih hb => ?_) t
 rw [ZkG] at hb
 rw [ZsJ, Zbf]
 have := Zq1 v v.fArgs 0 0 ih (by omega) (Nat.zero_le _)
 rw [Nat.max_eq_right (Nat.zero_le _)] at this
 exact this
theorem ZqN (t : Zi) : ∀ (xs : List Zi) (n x : Nat), (∀ k ∈ xs, k.nod ≤ BIG → Zae k = some ((k.dep : Nat) : Int)) → Zi.nods xs ≤ BIG → n ≤ BIG → ZaA ((n : Nat) : Int) x t xs = some ((max n (Zi.deps xs) + 1 : Nat) : Int)
 | [], n, x, _, _, hn => by
  have hB : BIG = 1000000000000 := rfl
  rw [ZaA, Zi.deps, w64 (by omega) (by omega)]
  rw [Nat.max_eq_left (Nat.zero_le _)]; rfl
 | k :: xs, n, x, h, hb, hn => by
  rw [ZgA] at hb
  rw [Zm7]
  have hd := ZtW k
  have hB : BIG = 1000000000000 := rfl
  rw [ZaA, h k (by simp) (by omega), Zm, Zfe]
  rw [ZqN t xs (max n k.dep) (x + 1) (fun j hj => h j (by simp [hj])) (by omega) (by omega), Nat.max_assoc]
theorem ZzV (t : Zi) : t.nod ≤ BIG → Zae t = some ((t.dep : Nat) : Int) := by
 refine Zi.ind (M := fun t => t.nod ≤ BIG → Zae t = some ((t.dep : Nat) : Int)) (fun v ih hb => ?_) t
 rw [ZkG] at hb
 rw [ZsJ, Zae]
 have := ZqN v v.fArgs 0 0 ih (by omega) (Nat.zero_le _)
 rw [Nat.max_eq_right (Nat.zero_le _)] at this
 exact this

mutual
def Za.vol : Za → Nat | .mk _ s b ks => 1 + s.size + b.nod + Za.vols ks
def Za.vols : List Za → Nat
 | [] => 0
 | k :: ks => Za.vol k + Za.vols ks
end
mutual
def Za.gks : Za → Nat | .mk _ _ b ks => max b.nod (Za.gkss ks)
def Za.gkss : List Za → Nat
 | [] => 0
 | k :: ks => max (Za.gks k) (Za.gkss ks)
end
mutual
def Za.gkd : Za → Nat | .mk _ _ b ks => max b.dep (Za.gkds ks)
def Za.gkds : List Za → Nat
 | [] => 0
 | k :: ks => max (Za.gkd k) (Za.gkds ks)
end
mutual
def Za.nmx : Za → Nat | .mk _ s _ ks => max s.size (Za.nmxs ks)
def Za.nmxs : List Za → Nat
 | [] => 0
 | k :: ks => max (Za.nmx k) (Za.nmxs ks)
end
theorem Znn (t : Za) : t.nmx = max t.fName.size (Za.nmxs t.fKids) := by cases t; rw [Za.nmx]; rfl
theorem ZfM (k : Za) (ks : List Za) : Za.nmxs (k :: ks) = max k.nmx (Za.nmxs ks) := by rw [Za.nmxs]
theorem Zp3 {k : Za} : ∀ {l : List Za}, k ∈ l → k.nmx ≤ Za.nmxs l
 | j :: l, h => by
  rw [ZfM]
  rcases List.mem_cons.1 h with rfl | h
  ·omega
  ·have := Zp3 h; omega
theorem Znw (t : Za) : t.vol = 1 + t.fName.size + t.fBound.nod + Za.vols t.fKids := by cases t; rw [Za.vol]; rfl
theorem Ztv (t : Za) : t.gks = max t.fBound.nod (Za.gkss t.fKids) := by cases t; rw [Za.gks]; rfl
theorem ZvN (t : Za) : t.gkd = max t.fBound.dep (Za.gkds t.fKids) := by cases t; rw [Za.gkd]; rfl
theorem Zhu (k : Za) (ks : List Za) : Za.vols (k :: ks) = k.vol + Za.vols ks := by rw [Za.vols]
theorem ZhB (k : Za) (ks : List Za) : Za.gkss (k :: ks) = max k.gks (Za.gkss ks) := by rw [Za.gkss]
theorem Ziy (k : Za) (ks : List Za) : Za.gkds (k :: ks) = max k.gkd (Za.gkds ks) := by rw [Za.gkds]
theorem ZpX {k : Za} : ∀ {l : List Za}, k ∈ l → k.vol ≤ Za.vols l
 | j :: l, h => by
  rw [Zhu]
  rcases List.mem_cons.1 h with rfl | h
  ·omega
  ·have := ZpX h; omega
theorem Zof (t : Za) : t.nod ≤ t.vol := by
 refine Za.ind (M := fun t => t.nod ≤ t.vol) (fun v ih => ?_) t
 have key : ∀ l : List Za, (∀ k ∈ l, k.nod ≤ k.vol) → Za.nods l ≤ Za.vols l := fun l => by
  induction l with
  | nil => intro _; rw [Za.nods, Za.vols]; exact Nat.le_refl _
  | cons k ks ihl => intro h; rw [ZcC, Zhu]; have h1 := h k (by simp); have h2 := ihl fun j hj => h j (by simp [hj]); omega
 have := key v.fKids ih
 rw [Zgu, Znw]; omega
theorem Zoq (t : Za) : t.nmx ≤ t.vol := by
 refine Za.ind (M := fun t => t.nmx ≤ t.vol) (fun v ih => ?_) t
 have key : ∀ l : List Za, (∀ k ∈ l, k.nmx ≤ k.vol) → Za.nmxs l ≤ Za.vols l := fun l => by
  induction l with
  | nil => intro _; rw [Za.nmxs, Za.vols]; exact Nat.le_refl _
  | cons k ks ihl => intro h; rw [ZfM, Zhu]; have h1 := h k (by simp); have h2 := ihl fun j hj => h j (by simp [hj]); omega
 have := key v.fKids ih
 rw [Znn, Znw]; omega
theorem Zwd (t : Za) : ∀ (xs : List Za) (n x : Nat), (∀ k ∈ xs, ZJ k = some ((k.gks : Nat) : Int)) → ZV ((n : Nat) : Int) t x xs = some ((max n (Za.gkss xs) : Nat) : Int)
 | [], n, x, _ => by rw [ZV, Za.gkss, Nat.max_eq_left (Nat.zero_le _)]
 | k :: xs, n, x, h => by
  rw [ZV, h k (by simp), Zm, Zfe, Zwd t xs _ _ (fun j hj => h j (by simp [hj])), ZhB, Nat.max_assoc]
theorem ZEj (t : Za) : t.vol ≤ BIG → ZJ t = some ((t.gks : Nat) : Int) := by
 refine Za.ind (M := fun t => t.vol ≤ BIG → ZJ t = some ((t.gks : Nat) : Int)) (fun v ih hb => ?_) t
 rw [Znw] at hb
 rw [ZJ, ZBk _ (by omega), Zm, Zwd v v.fKids _ 0 (fun k hk => ih k hk (by have := ZpX hk; omega)), Ztv]
theorem Zw7 (t : Za) : ∀ (xs : List Za) (n x : Nat), (∀ k ∈ xs, ZF k = some ((k.gkd : Nat) : Int)) → ZT ((n : Nat) : Int) t x xs = some ((max n (Za.gkds xs) : Nat) : Int)
 | [], n, x, _ => by rw [ZT, Za.gkds, Nat.max_eq_left (Nat.zero_le _)]
 | k :: xs, n, x, h => by
  rw [ZT, h k (by simp), Zm, Zfe, Zw7 t xs _ _ (fun j hj => h j (by simp [hj])), Ziy, Nat.max_assoc]
theorem ZF7 (t : Za) : t.vol ≤ BIG → ZF t = some ((t.gkd : Nat) : Int) := by
 refine Za.ind (M := fun t => t.vol ≤ BIG → ZF t = some ((t.gkd : Nat) : Int)) (fun v ih hb => ?_) t
 rw [Znw] at hb
 rw [ZF, ZAe _ (by omega), Zm, Zw7 v v.fKids _ 0 (fun k hk => ih k hk (by have := ZpX hk; omega)), ZvN]
theorem Zsz (t : Za) : ∀ (xs : List Za) (a b x : Nat), (∀ k ∈ xs, ZaP k = some (((k.gks : Nat) : Int), ((k.gkd : Nat) : Int))) → Zbp ((a : Nat) : Int) ((b : Nat) : Int) x t xs = some (((max a (Za.gkss xs) : Nat) : Int), ((max b (Za.gkds xs) : Nat) : Int))
 | [], a, b, x, _ => by rw [Zbp, Za.gkss, Za.gkds, Nat.max_eq_left (Nat.zero_le _), Nat.max_eq_left (Nat.zero_le _)]
 | k :: xs, a, b, x, h => by
  rw [Zbp, h k (by simp), Zm, Zfe, Zfe, Zsz t xs _ _ _ (fun j hj => h j (by simp [hj])), ZhB, Ziy, Nat.max_assoc, Nat.max_assoc]
theorem ZA7 (t : Za) : t.vol ≤ BIG → ZaP t = some (((t.gks : Nat) : Int), ((t.gkd : Nat) : Int)) := by
 refine Za.ind (M := fun t => t.vol ≤ BIG → ZaP t = some (((t.gks : Nat) : Int), ((t.gkd : Nat) : Int))) (fun v ih hb => ?_) t
 rw [Znw] at hb
 rw [ZaP, ZAS _ (by omega), Zm, ZzV _ (by omega), Zm, Zsz v v.fKids _ _ 0 (fun k hk => ih k hk (by have := ZpX hk; omega)), Ztv, ZvN]

def ZiW (t : Za) : Bool :=
 if t.fOp = 1 then Zhk t.fName && decide (t.fBound.fArgs.length = 0) && decide (t.fKids.length = 0)
 else if t.fOp = 2 then ZxN t.fName && decide (t.fBound.fArgs.length = 0) && decide (t.fKids.length = 0)
 else if t.fOp = 3 then decide (t.fName.size = 0) && decide (t.fBound.fArgs.length = 0) && decide (t.fKids.length = 2)
 else if t.fOp = 4 then Zhk t.fName && decide (t.fKids.length = 1) else false
mutual
def Za.fms : Za → Bool | .mk o s b ks => Za.fmss ks && ZiW (.mk o s b ks)
def Za.fmss : List Za → Bool
 | [] => true
 | k :: ks => Za.fms k && Za.fmss ks
end
theorem Zo3 (t : Za) : t.fms = (Za.fmss t.fKids && ZiW t) := by cases t; rw [Za.fms]; rfl
theorem ZfO (k : Za) (ks : List Za) : Za.fmss (k :: ks) = (k.fms && Za.fmss ks) := by rw [Za.fmss]
theorem Zma (a b : Nat) : (((a : Nat) : Int) == ((b : Nat) : Int)) = decide (a = b) := by rw [Zdt, Bool.eq_iff_iff, beq_iff_eq, decide_eq_true_iff]
theorem ZCH (a b : Int) : ((a == b) = true) = (a = b) := by rw [beq_iff_eq]
theorem ZuF (t : Za) (ht : t.fName.size ≤ 1000000000) : ∀ (xs : List Za) (x : Nat), (∀ k ∈ xs, ZaE k = some k.fms) → Zbc x t xs = some (Za.fmss xs && ZiW t)
 | [], x, _ => by
  have e0 := Zma t.fBound.fArgs.length 0
  have e1 := Zma t.fKids.length 0
  have e2 := Zma t.fKids.length 2
  have e3 := Zma t.fKids.length 1
  simp only [Int.natCast_zero, Int.cast_ofNat_Int] at e0 e1 e2 e3
  rw [Zbc, Za.fmss, Bool.true_and]
  unfold ZiW
  simp only [ZCH]
  rw [Zxj _ ht, ZFt _ ht, Zmn]
  split
  ·rw [Zm, e0, e1]
  ·split
   ·rw [Zm, e0, e1]
   ·split
    ·rw [e0, e2]
    ·split
     ·rw [Zm, e3]
     ·rfl
 | k :: xs, x, h => by
  rw [Zbc, h k (by simp), Zm, ZfO]
  cases k.fms with
  | false => rfl
  | true => rw [Bool.not_true, ifF, ZuF t ht xs _ (fun j hj => h j (by simp [hj])), Bool.true_and]
theorem ZBZ (t : Za) : t.nmx ≤ 1000000000 → ZaE t = some t.fms := by
 refine Za.ind (M := fun t => t.nmx ≤ 1000000000 → ZaE t = some t.fms) (fun v ih hb => ?_) t
 rw [Znn] at hb
 rw [ZaE, ZuF v (by omega) v.fKids 0 (fun k hk => ih k hk (by have := Zp3 hk; omega)), Zo3]

theorem Zw3 (s : List Za) : ∀ (xs : List Za) (x : Nat), (∀ k ∈ xs, ZbF k = some k.fms) → ∃ r, ZI s x xs = some r ∧ decide (r ≥ 0) = !Za.fmss xs
 | [], x, _ => ⟨-1, by rw [ZI], by rw [Za.fmss]; rfl⟩
 | k :: xs, x, h => by
  obtain ⟨r, h1, h2⟩ := Zw3 s xs (x + 1) (fun j hj => h j (by simp [hj]))
  have hk : Zdv k = some (!k.fms) := by rw [Zdv, h k (by simp), Zm]
  rw [ZI, hk, Zm, ZfO]
  cases k.fms with
  | false => exact ⟨_, by rw [Bool.not_false, ifT], decide_eq_true (by omega)⟩
  | true => exact ⟨r, by rw [Bool.not_true, ifF, h1], by rw [h2, Bool.true_and]⟩
theorem ZEa (s : List Za) (h : ∀ k ∈ s, ZbF k = some k.fms) : ZU s = some (!Za.fmss s) := by
 obtain ⟨r, h1, h2⟩ := Zw3 s s 0 h
 rw [ZU, Zad, h1, Zm, h2]
theorem ZAO (op : Int) : ∃ b, Zeh (Zhl (Zhl ([] : List (Int × Int)) 3 2) 4 1) 0 op = some ((if op = 3 then 2 else if op = 4 then 1 else 0), b) := by
 by_cases h3 : op = 3
 ·subst h3; exact ⟨_, rfl⟩
 ·by_cases h4 : op = 4
  ·subst h4; exact ⟨_, rfl⟩
  ·have e3 : (op == 3) = false := by rw [beq_eq_false_iff_ne]; exact h3
   have e4 : (op == 4) = false := by rw [beq_eq_false_iff_ne]; exact h4
   rw [if_neg h3, if_neg h4]
   refine ⟨false, ?_⟩
   have hm : Zhl (Zhl ([] : List (Int × Int)) 3 2) 4 1 = [(3, 2), (4, 1)] := rfl
   rw [hm]
   unfold Zeh
   simp only [Zff, e3, e4, Bool.false_eq_true, if_false]

theorem ZDf (t : Za) : t.nmx ≤ 1000000000 → ZbF t = some t.fms := by
 refine Za.ind (M := fun t => t.nmx ≤ 1000000000 → ZbF t = some t.fms) (fun v ih hb => ?_) t
 rw [Znn] at hb
 have hk : ∀ k ∈ v.fKids, ZbF k = some k.fms := fun k hk => ih k hk (by have := Zp3 hk; omega)
 have hs : v.fName.size ≤ 1000000000 := by omega
 obtain ⟨b, hlook⟩ := ZAO v.fOp
 have hc := ZEa v.fKids hk
 have e0 : decide (((v.fBound.fArgs.length : Nat) : Int) > 0) = !decide (v.fBound.fArgs.length = 0) := by
  by_cases h : v.fBound.fArgs.length = 0
  ·rw [decide_eq_true h]; exact decide_eq_false (by omega)
  ·rw [decide_eq_false h]; exact decide_eq_true (by omega)
 have ek : ∀ n : Nat, (((v.fKids.length : Nat) : Int) != ((n : Nat) : Int)) = !decide (v.fKids.length = n) := fun n => by rw [bne, Zma]
 have ek0 := ek 0
 have ek1 := ek 1
 have ek2 := ek 2
 simp only [Int.natCast_zero, Int.cast_ofNat_Int] at ek0 ek1 ek2
 rw [ZbF, hlook, Zm, hc, Zmn, e0, Zo3]
 unfold Zdf ZiW
 rw [ZAn _ hs, ZGa _ hs, ZFG _ hs]
 by_cases h1 : v.fOp = 1
 ·rw [h1]; simp only [Zm]
  simp only [ek0, show ((1 : Int) = 3) = False from by decide, show ((1 : Int) = 4) = False from by decide, if_false, if_true]
  cases decide (v.fBound.fArgs.length = 0) <;> cases decide (v.fKids.length = 0) <;> cases Za.fmss v.fKids <;> cases Zhk v.fName <;> rfl
 ·by_cases h2 : v.fOp = 2
  ·rw [h2]; simp only [Zm]
   simp only [ek0, show ((2 : Int) = 3) = False from by decide, show ((2 : Int) = 4) = False from by decide, show ((2 : Int) = 1) = False from by decide, if_false, if_true]
   unfold ZxN
   cases decide (v.fBound.fArgs.length = 0) <;> cases decide (v.fKids.length = 0) <;> cases Za.fmss v.fKids <;> cases (Zue v.fName.data.toList || ZrW v.fName.data.toList) <;> cases Zvx v.fName <;> rfl
  ·by_cases h3 : v.fOp = 3
   ·rw [h3]; simp only [Zm]
    simp only [ek2, show ((3 : Int) = 4) = False from by decide, show ((3 : Int) = 1) = False from by decide, show ((3 : Int) = 2) = False from by decide, if_false, if_true]
    cases decide (v.fBound.fArgs.length = 0) <;> cases decide (v.fKids.length = 2) <;> cases Za.fmss v.fKids <;> cases decide (v.fName.size = 0) <;> rfl
   ·by_cases h4 : v.fOp = 4
    ·rw [h4]; simp only [Zm]
     simp only [ek1, show ((4 : Int) = 3) = False from by decide, show ((4 : Int) = 1) = False from by decide, show ((4 : Int) = 2) = False from by decide, if_false, if_true]
     cases decide (v.fBound.fArgs.length = 0) <;> cases decide (v.fKids.length = 1) <;> cases Za.fmss v.fKids <;> cases Zhk v.fName <;> rfl
    ·have g1 : (v.fOp == 1) = false := by rw [beq_eq_false_iff_ne]; exact h1
     have g2 : (v.fOp == 2) = false := by rw [beq_eq_false_iff_ne]; exact h2
     have g3 : (v.fOp == 3) = false := by rw [beq_eq_false_iff_ne]; exact h3
     have g4 : (v.fOp == 4) = false := by rw [beq_eq_false_iff_ne]; exact h4
     have g5 : (v.fOp != 4) = true := by rw [bne, g4]; rfl
     simp only [Zm, g1, g2, g3, g4, g5, if_neg h1, if_neg h2, if_neg h3, if_neg h4, ek0]
     cases decide (v.fBound.fArgs.length = 0) <;> cases decide (v.fKids.length = 0) <;> cases Za.fmss v.fKids <;> rfl

def ZfH (t : Za) : Int :=
 if t.fms = true then (if 20000 < t.nod ∨ 20000 < t.gks then 3 else if 100 < t.dep ∨ 100 < t.gkd then 4 else 0) else 1
theorem ZAs (a b : Prop) [Decidable a] [Decidable b] : (decide a || decide b) = decide (a ∨ b) := by
 rw [Bool.eq_iff_iff, Bool.or_eq_true, decide_eq_true_iff, decide_eq_true_iff, decide_eq_true_iff]
theorem Zmi (a n : Nat) : decide (((a : Nat) : Int) > ((n : Nat) : Int)) = decide (n < a) := decide_eq_decide.2 (by omega)
theorem Zuo (t : Za) (hm : t.nmx ≤ 1000000000) (h : t.vol ≤ 1000000000000) : ZbT t = some (ZfH t) := by
 have hB : BIG = 1000000000000 := rfl
 have hn := Zof t
 have g1 := Zmi t.nod 20000
 have g2 := Zmi t.gks 20000
 have g3 := Zmi t.dep 100
 have g4 := Zmi t.gkd 100
 simp only [Int.cast_ofNat_Int] at g1 g2 g3 g4
 unfold ZbT ZfH
 rw [ZDf t hm, Zm]
 cases t.fms with
 | false => rfl
 | true =>
  rw [Bool.not_true, ifF, ifT, ZAy t (by omega), Zm, ZEj t (by omega), Zm, g1, g2, Zw1 t (by omega), Zm, ZF7 t (by omega), Zm, g3, g4]
  by_cases a1 : 20000 < t.nod
  ·rw [decide_eq_true a1, orT, ifT, if_pos (.inl a1)]
  ·rw [decide_eq_false a1, orF, Zm]
   by_cases a2 : 20000 < t.gks
   ·rw [decide_eq_true a2, ifT, if_pos (.inr a2)]
   ·rw [decide_eq_false a2, ifF, if_neg (show ¬ (20000 < t.nod ∨ 20000 < t.gks) from fun h => h.elim a1 a2)]
    by_cases a3 : 100 < t.dep
    ·rw [decide_eq_true a3, orT, ifT, if_pos (.inl a3)]
    ·rw [decide_eq_false a3, orF, Zm]
     by_cases a4 : 100 < t.gkd
     ·rw [decide_eq_true a4, ifT, if_pos (.inr a4)]
     ·rw [decide_eq_false a4, ifF, if_neg (show ¬ (100 < t.dep ∨ 100 < t.gkd) from fun h => h.elim a3 a4)]
theorem ZrA (t : Za) (hm : t.nmx ≤ 1000000000) (h : t.vol ≤ 1000000000000) : Zag t = some (ZfH t) := by
 have hB : BIG = 1000000000000 := rfl
 have hn := Zof t
 have g1 := Zmi t.nod 20000
 have g2 := Zmi t.gks 20000
 have g3 := Zmi t.dep 100
 have g4 := Zmi t.gkd 100
 simp only [Int.cast_ofNat_Int] at g1 g2 g3 g4
 unfold Zag ZfH
 rw [ZBZ t hm, Zm]
 cases t.fms with
 | false => rfl
 | true =>
  rw [Bool.not_true, ifF, ifT, ZA7 t (by omega), Zm, ZqS t (by omega), Zm, g1, g2, ZnM t (by omega), Zm, g3, g4, ZAs, ZAs]
  by_cases a1 : 20000 < t.nod ∨ 20000 < t.gks
  ·rw [decide_eq_true a1, ifT, if_pos a1]
  ·rw [decide_eq_false a1, ifF, if_neg a1]
   by_cases a2 : 100 < t.dep ∨ 100 < t.gkd
   ·rw [decide_eq_true a2, ifT, if_pos a2]
   ·rw [decide_eq_false a2, ifF, if_neg a2]
theorem ZBh (t : Za) (h : t.vol ≤ 1000000000) : ZbT t = some (ZfH t) := Zuo t (Nat.le_trans (Zoq t) h) (by omega)
theorem ZpR (t : Za) (h : t.vol ≤ 1000000000) : Zag t = some (ZfH t) := ZrA t (Nat.le_trans (Zoq t) h) (by omega)

mutual
def Za.qnt : Za → Bool | .mk o _ _ ks => (o == 4) || Za.qnts ks
def Za.qnts : List Za → Bool
 | [] => false
 | k :: ks => Za.qnt k || Za.qnts ks
end
theorem ZvI (t : Za) : t.qnt = ((t.fOp == 4) || Za.qnts t.fKids) := by cases t; rw [Za.qnt]; rfl
theorem Ziz (k : Za) (ks : List Za) : Za.qnts (k :: ks) = (k.qnt || Za.qnts ks) := by rw [Za.qnts]
theorem Zv8 (s : List Za) : ∀ (xs : List Za) (x : Nat), (∀ k ∈ xs, ZaO k = some k.qnt) → ∃ r, ZD s x xs = some r ∧ decide (r ≥ 0) = Za.qnts xs
 | [], x, _ => ⟨-1, by rw [ZD], by rw [Za.qnts]; rfl⟩
 | k :: xs, x, h => by
  obtain ⟨r, h1, h2⟩ := Zv8 s xs (x + 1) (fun j hj => h j (by simp [hj]))
  rw [ZD, h k (by simp), Zm, Ziz]
  cases k.qnt with
  | true => exact ⟨_, by rw [ifT], decide_eq_true (by omega)⟩
  | false => exact ⟨r, by rw [ifF, h1], by rw [h2, Bool.false_or]⟩
theorem ZFD (t : Za) : ZaO t = some t.qnt := by
 refine Za.ind (M := fun t => ZaO t = some t.qnt) (fun v ih => ?_) t
 obtain ⟨r, h1, h2⟩ := Zv8 v.fKids v.fKids 0 ih
 rw [ZaO, ZvI]
 cases v.fOp == 4 with
 | true => rfl
 | false => rw [ZY, Z4, h1, Zm, h2, Bool.false_or]; rfl
theorem Zxg (t : Za) : ∀ (xs : List Za) (x : Nat), (∀ k ∈ xs, Z6 k = some k.qnt) → Zap x t xs = some (Za.qnts xs || (t.fOp == 4))
 | [], x, _ => by rw [Zap, Za.qnts, Bool.false_or]
 | k :: xs, x, h => by
  rw [Zap, h k (by simp), Zm, Ziz]
  cases k.qnt with
  | true => rfl
  | false => rw [ifF, Zxg t xs _ (fun j hj => h j (by simp [hj])), Bool.false_or]
theorem ZEH (t : Za) : Z6 t = some t.qnt := by
 refine Za.ind (M := fun t => Z6 t = some t.qnt) (fun v ih => ?_) t
 rw [Z6, Zxg v v.fKids 0 ih, ZvI, Bool.or_comm]
def ZnR (t : Za) : Bool := (ZfH t == 0) && !t.qnt
theorem ZBO (t : Za) (h : t.vol ≤ 1000000000) : Zdp t = some (ZnR t) := by
 unfold Zdp ZnR
 rw [ZBh t h, Zm, ZFD]
 cases ZfH t == 0 <;> rfl
theorem ZBK (t : Za) (h : t.vol ≤ 1000000000) : Zcl t = some (ZnR t) := by
 unfold Zcl ZnR
 rw [ZpR t h, Zm, ZEH]
 cases ZfH t == 0 <;> rfl
inductive ST where
 | v (s : ByteArray)
 | k (s : ByteArray)
 | a (f x : ST)
def ST.ty : ST → Za
 | .v s => Za.mk 1 s (Zi.mk []) []
 | .k s => Za.mk 2 s (Zi.mk []) []
 | .a f x => Za.mk 3 (ByteArray.mk #[]) (Zi.mk []) [f.ty, x.ty]
def ST.nod : ST → Nat
 | .v _ => 1
 | .k _ => 1
 | .a f x => 1 + f.nod + x.nod
def ST.dep : ST → Nat
 | .v _ => 1
 | .k _ => 1
 | .a f x => max f.dep x.dep + 1
def ST.nms : ST → Bool
 | .v s => Zhk s && decide (s.size ≤ 1048576)
 | .k s => ZxN s && decide (s.size ≤ 1048576)
 | .a f x => f.nms && x.nms
theorem ZC0 (k : Zi) (h : k.fArgs.length = 0) : k = Zi.mk [] := by
 cases k with | mk l => cases l with | nil => rfl | cons _ _ => cases h
theorem ZIt (s : ByteArray) (h : s.size = 0) : s = ByteArray.mk #[] := by
 apply Ze5
 have : s.data.toList.length = 0 := by rw [sz]; exact h
 rw [List.length_eq_zero_iff.1 this]
theorem ZEI (t : Za) : t.nmx ≤ 1048576 → t.fms = true → t.qnt = false → ∃ s : ST, s.ty = t ∧ s.nms = true := by
 refine Za.ind (M := fun t => t.nmx ≤ 1048576 → t.fms = true → t.qnt = false → ∃ s : ST, s.ty = t ∧ s.nms = true) (fun v ih hb hf hq => ?_) t
 rw [Znn] at hb
 rw [Zo3, Bool.and_eq_true] at hf
 rw [ZvI, Bool.or_eq_false_iff] at hq
 obtain ⟨h1, h2⟩ := hf
 obtain ⟨op, s, b, ks⟩ := v
 have hs : s.size ≤ 1048576 := by have : (Za.mk op s b ks).fName = s := rfl; rw [this] at hb; omega
 have hk : Za.nmxs ks ≤ 1048576 := by have : (Za.mk op s b ks).fKids = ks := rfl; rw [this] at hb; omega
 replace h1 : Za.fmss ks = true := h1
 replace hq : (op == 4) = false ∧ Za.qnts ks = false := hq
 unfold ZiW at h2
 have e1 : (Za.mk op s b ks).fOp = op := rfl
 have e2 : (Za.mk op s b ks).fName = s := rfl
 have e3 : (Za.mk op s b ks).fBound = b := rfl
 have e4 : (Za.mk op s b ks).fKids = ks := rfl
 rw [e1, e2, e3, e4] at h2
 by_cases o1 : op = 1
 ·rw [if_pos o1] at h2
  simp only [Bool.and_eq_true, decide_eq_true_eq] at h2
  obtain ⟨⟨h3, h4⟩, h5⟩ := h2
  refine ⟨.v s, ?_, by simp [ST.nms, h3, hs]⟩
  rw [ST.ty, ZC0 b h4, List.length_eq_zero_iff.1 h5, o1]
 ·rw [if_neg o1] at h2
  by_cases o2 : op = 2
  ·rw [if_pos o2] at h2
   simp only [Bool.and_eq_true, decide_eq_true_eq] at h2
   obtain ⟨⟨h3, h4⟩, h5⟩ := h2
   refine ⟨.k s, ?_, by simp [ST.nms, h3, hs]⟩
   rw [ST.ty, ZC0 b h4, List.length_eq_zero_iff.1 h5, o2]
  ·rw [if_neg o2] at h2
   by_cases o3 : op = 3
   ·rw [if_pos o3] at h2
    simp only [Bool.and_eq_true, decide_eq_true_eq] at h2
    obtain ⟨⟨h3, h4⟩, h5⟩ := h2
    match ks, h5, h1, hk, ih, hq.2 with
    | [f, x], _, h1, hk, ih, hq2 =>
     rw [ZfO, ZfO, Bool.and_eq_true, Bool.and_eq_true] at h1
     rw [ZfM, ZfM] at hk
     rw [Ziz, Ziz, Bool.or_eq_false_iff, Bool.or_eq_false_iff] at hq2
     obtain ⟨f', hf1, hf2⟩ := ih f (by simp [Za.fKids]) (by omega) h1.1 hq2.1
     obtain ⟨x', hx1, hx2⟩ := ih x (by simp [Za.fKids]) (by omega) h1.2.1 hq2.2.1
     refine ⟨.a f' x', ?_, by simp [ST.nms, hf2, hx2]⟩
     rw [ST.ty, hf1, hx1, ZC0 b h4, ZIt s h3, o3]
   ·rw [if_neg o3] at h2
    have o4 : ¬ op = 4 := fun h => by rw [h] at hq; simp at hq
    rw [if_neg o4] at h2
    cases h2
theorem Zrc : ∀ s : ST, s.nms = true → s.ty.fms = true
 | .v s, h => by
  simp only [ST.nms, Bool.and_eq_true] at h
  rw [ST.ty, Za.fms, Za.fmss, ZiW, if_pos (show (Za.mk 1 s (Zi.mk []) []).fOp = 1 from rfl)]
  show (true && (Zhk s && true && true)) = true
  rw [h.1]; rfl
 | .k s, h => by
  simp only [ST.nms, Bool.and_eq_true] at h
  rw [ST.ty, Za.fms, Za.fmss, ZiW, if_neg (show ¬ (Za.mk 2 s (Zi.mk []) []).fOp = 1 from fun h => absurd (show (2 : Int) = 1 from h) (by decide)), if_pos (show (Za.mk 2 s (Zi.mk []) []).fOp = 2 from rfl)]
  show (true && (ZxN s && true && true)) = true
  rw [h.1]; rfl
 | .a f x, h => by
  simp only [ST.nms, Bool.and_eq_true] at h
  rw [ST.ty, Za.fms, ZfO, ZfO, Zrc f h.1, Zrc x h.2, Za.fmss, ZiW]
  rfl
theorem Zhb : ∀ s : ST, s.ty.nod = s.nod
 | .v s => by rw [ST.ty, Za.nod, Za.nods, ST.nod]
 | .k s => by rw [ST.ty, Za.nod, Za.nods, ST.nod]
 | .a f x => by rw [ST.ty, Za.nod, ZcC, ZcC, Za.nods, ST.nod, Zhb f, Zhb x]; omega
theorem Znp : ∀ s : ST, s.ty.dep = s.dep
 | .v s => by rw [ST.ty, Za.dep, Za.deps, ST.dep]
 | .k s => by rw [ST.ty, Za.dep, Za.deps, ST.dep]
 | .a f x => by rw [ST.ty, Za.dep, Ze6, Ze6, Za.deps, ST.dep, Znp f, Znp x]; omega
theorem Zrg : ∀ s : ST, s.ty.gks = 1
 | .v s => by rw [ST.ty, Za.gks, Za.gkss, Zi.nod, Zi.nods]; rfl
 | .k s => by rw [ST.ty, Za.gks, Za.gkss, Zi.nod, Zi.nods]; rfl
 | .a f x => by rw [ST.ty, Za.gks, ZhB, ZhB, Za.gkss, Zrg f, Zrg x, Zi.nod, Zi.nods]; rfl
theorem Zp8 : ∀ s : ST, s.ty.gkd = 1
 | .v s => by rw [ST.ty, Za.gkd, Za.gkds, Zi.dep, Zi.deps]; rfl
 | .k s => by rw [ST.ty, Za.gkd, Za.gkds, Zi.dep, Zi.deps]; rfl
 | .a f x => by rw [ST.ty, Za.gkd, Ziy, Ziy, Za.gkds, Zp8 f, Zp8 x, Zi.dep, Zi.deps]; rfl
theorem Zv2 : ∀ s : ST, s.ty.qnt = false
 | .v s => by rw [ST.ty, Za.qnt, Za.qnts]; rfl
 | .k s => by rw [ST.ty, Za.qnt, Za.qnts]; rfl
 | .a f x => by rw [ST.ty, Za.qnt, Ziz, Ziz, Za.qnts, Zv2 f, Zv2 x]; rfl
theorem ZoS : ∀ s : ST, s.nms = true → s.ty.nmx ≤ 1048576
 | .v s, h => by
  simp only [ST.nms, Bool.and_eq_true, decide_eq_true_eq] at h
  rw [ST.ty, Za.nmx, Za.nmxs]; omega
 | .k s, h => by
  simp only [ST.nms, Bool.and_eq_true, decide_eq_true_eq] at h
  rw [ST.ty, Za.nmx, Za.nmxs]; omega
 | .a f x, h => by
  simp only [ST.nms, Bool.and_eq_true] at h
  have h1 := ZoS f h.1
  have h2 := ZoS x h.2
  have h3 : (ByteArray.mk #[]).size = 0 := rfl
  rw [ST.ty, Za.nmx, ZfM, ZfM, Za.nmxs]; omega
theorem Zri : ∀ s : ST, s.nms = true → s.ty.vol ≤ 1048578 * s.nod
 | .v s, h => by
  simp only [ST.nms, Bool.and_eq_true, decide_eq_true_eq] at h
  rw [ST.ty, Za.vol, Za.vols, Zi.nod, Zi.nods, ST.nod]; omega
 | .k s, h => by
  simp only [ST.nms, Bool.and_eq_true, decide_eq_true_eq] at h
  rw [ST.ty, Za.vol, Za.vols, Zi.nod, Zi.nods, ST.nod]; omega
 | .a f x, h => by
  simp only [ST.nms, Bool.and_eq_true] at h
  have h1 := Zri f h.1
  have h2 := Zri x h.2
  have h3 : (ByteArray.mk #[]).size = 0 := rfl
  rw [ST.ty, Za.vol, Zhu, Zhu, Za.vols, Zi.nod, Zi.nods, ST.nod, h3]; omega
def ST.big (s : ST) : Bool := decide (20000 < s.nod) || decide (100 < s.dep)
theorem Zs3 (s : ST) (h : s.nms = true) : ZfH s.ty = if 20000 < s.nod then 3 else if 100 < s.dep then 4 else 0 := by
 unfold ZfH
 rw [if_pos (Zrc s h), Zhb, Znp, Zrg, Zp8]
 by_cases h1 : 20000 < s.nod
 ·rw [if_pos (.inl h1), if_pos h1]
 ·rw [if_neg (show ¬ (20000 < s.nod ∨ 20000 < 1) by omega), if_neg h1]
  by_cases h2 : 100 < s.dep
  ·rw [if_pos (.inl h2), if_pos h2]
  ·rw [if_neg (show ¬ (100 < s.dep ∨ 100 < 1) by omega), if_neg h2]
theorem ZcN {s : ST} : s.big = false ↔ s.nod ≤ 20000 ∧ s.dep ≤ 100 := by
 unfold ST.big
 rw [Bool.or_eq_false_iff, decide_eq_false_iff_not, decide_eq_false_iff_not]; omega
def ST.good (s : ST) : Prop := s.nms = true ∧ s.big = false
theorem Zrf (s : ST) (h : s.good) : ZbT s.ty = some 0 := by
 have hb := ZcN.1 h.2
 have h1 := ZoS s h.1
 have h2 := Zri s h.1
 rw [Zuo s.ty (by omega) (by omega), Zs3 s h.1, if_neg (by omega), if_neg (by omega)]
theorem ZvC (s : ST) (h : s.good) : Zag s.ty = some 0 := by
 have hb := ZcN.1 h.2
 have h1 := ZoS s h.1
 have h2 := Zri s h.1
 rw [ZrA s.ty (by omega) (by omega), Zs3 s h.1, if_neg (by omega), if_neg (by omega)]
theorem ZzI {t : Za} (hv : t.vol ≤ 1048576) (h : ZnR t = true) : ∃ s : ST, s.ty = t ∧ s.good := by
 unfold ZnR at h
 simp only [Bool.and_eq_true, beq_iff_eq, Bool.not_eq_true'] at h
 have hf : t.fms = true := by
  cases hf : t.fms with
  | true => rfl
  | false => unfold ZfH at h; rw [hf] at h; simp at h
 obtain ⟨s, rfl, hn⟩ := ZEI t (Nat.le_trans (Zoq t) hv) hf h.2
 refine ⟨s, rfl, hn, ?_⟩
 rw [Zs3 s hn] at h
 rw [ZcN]
 by_cases h1 : 20000 < s.nod
 ·rw [if_pos h1] at h; simp at h
 ·by_cases h2 : 100 < s.dep
  ·rw [if_neg h1, if_pos h2] at h; simp at h
  ·omega
theorem ZnU {s : ST} (h : s.good) : ZnR s.ty = true := by
 have hb := ZcN.1 h.2
 unfold ZnR
 rw [Zs3 s h.1, if_neg (by omega), if_neg (by omega), Zv2]; rfl

theorem ZrR (a b : ByteArray) : (a == b) = decide (a = b) := by
 cases a with | mk x => cases b with | mk y =>
 have : ((⟨x⟩ : ByteArray) == ⟨y⟩) = (x == y) := rfl
 rw [this, Bool.eq_iff_iff, beq_iff_eq, decide_eq_true_iff]
 exact ⟨fun h => by rw [h], fun h => by injection h⟩
theorem ZkU (a b : ByteArray) : (a.toList == b.toList) = decide (a = b) := by
 rw [Bool.eq_iff_iff, beq_iff_eq, decide_eq_true_iff, ZaY, ZaY]
 exact ⟨fun h => Ze5 h, fun h => by rw [h]⟩
abbrev SB := List (ByteArray × ST)
def lk (x : ByteArray) : SB → Option ST
 | [] => none
 | p :: L => if p.1 = x then some p.2 else lk x L
def fi (x : ByteArray) : SB → Option Nat
 | [] => none
 | p :: L => if p.1 = x then some 0 else (fi x L).map (· + 1)
def toB (p : ByteArray × ST) : Ze := Ze.mk p.1 p.2.ty
def atL : Nat → SB → List (ByteArray × Int)
 | _, [] => []
 | k, p :: L => (p.1, ((k : Nat) : Int)) :: atL (k + 1) L
theorem ZsH (x : ByteArray) : ∀ L : SB, (fi x L = none ∧ lk x L = none) ∨ ∃ i p, fi x L = some i ∧ L[i]? = some p ∧ p.1 = x ∧ lk x L = some p.2
 | [] => .inl ⟨rfl, rfl⟩
 | q :: L => by
  by_cases h : q.1 = x
  ·exact .inr ⟨0, q, by rw [fi, if_pos h], rfl, h, by rw [lk, if_pos h]⟩
  ·rcases ZsH x L with ⟨h1, h2⟩ | ⟨i, p, h1, h2, h3, h4⟩
   ·exact .inl ⟨by rw [fi, if_neg h, h1]; rfl, by rw [lk, if_neg h, h2]⟩
   ·exact .inr ⟨i + 1, p, by rw [fi, if_neg h, h1]; rfl, h2, h3, by rw [lk, if_neg h, h4]⟩
theorem ZuI (s : List Ze) (x : ByteArray) : ∀ (L : SB) (k : Nat), ZcV s x k (L.map toB) = some (match fi x L with | some i => ((k + i : Nat) : Int) | none => -1)
 | [], k => by rw [List.map_nil, ZcV]; rfl
 | p :: L, k => by
  rw [List.map_cons, ZcV, ZkU, fi]
  show (if decide (p.1 = x) = true then _ else _) = _
  by_cases h : p.1 = x
  ·rw [decide_eq_true h, ifT, if_pos h]; rfl
  ·rw [decide_eq_false h, ifF, if_neg h, ZuI s x L (k + 1)]
   cases fi x L with
   | none => rfl
   | some i => simp only [Option.map_some]; congr 2; omega
theorem Zym (x : ByteArray) (L : SB) : Zdh (L.map toB) x = some (match fi x L with | some i => ((i : Nat) : Int) | none => -1) := by
 rw [Zdh, ZuI]
 cases fi x L with
 | none => rfl
 | some i => simp only [Nat.zero_add]
theorem Zus (x : ByteArray) : ∀ (L : SB) (k : Nat), Zff x (atL k L) = (fi x L).map fun i => ((k + i : Nat) : Int)
 | [], k => rfl
 | p :: L, k => by
  rw [atL, Zff, ZrR, fi]
  by_cases h : p.1 = x
  ·rw [decide_eq_true h.symm, ifT, if_pos h]; rfl
  ·rw [decide_eq_false (fun e => h e.symm), ifF, if_neg h, Zus x L (k + 1)]
   cases fi x L with
   | none => rfl
   | some i => simp only [Option.map_some]; congr 2; omega
theorem ZwN (x : ByteArray) (u : ST) : ∀ (L : SB) (k n : Nat), fi x L = none → n = k + L.length → Zhl (atL k L) x ((n : Nat) : Int) = atL k (L ++ [(x, u)])
 | [], k, n, _, h => by subst h; rfl
 | p :: L, k, n, hf, h => by
  rw [fi] at hf
  by_cases hx : p.1 = x
  ·rw [if_pos hx] at hf; cases hf
  ·rw [if_neg hx] at hf
   have hf : fi x L = none := by cases hh : fi x L with | none => rfl | some i => rw [hh] at hf; cases hf
   rw [List.cons_append, atL, atL, Zhl, ZrR, decide_eq_false (fun e => hx e.symm), ifF, ZwN x u L (k + 1) n hf (by rw [h, List.length_cons]; omega)]
theorem ZuH (L : SB) (x : ByteArray) : Zeh (atL 0 L) 0 x = some (match fi x L with | some i => (((i : Nat) : Int), true) | none => (0, false)) := by
 unfold Zeh
 rw [Zus]
 cases fi x L with
 | none => rfl
 | some i => simp only [Option.map_some, Nat.zero_add]
theorem Zk4 {α : Type} (l : List α) (i : Nat) : ixI l ((i : Nat) : Int) = l[i]? := by
 unfold ixI; rw [if_pos (Int.natCast_nonneg i)]; rfl
def ST.isv : ST → Bool
 | .v _ => true
 | _ => false
def ST.res (L : SB) : ST → ST
 | .v s => (lk s L).getD (.v s)
 | t => t
theorem ZED : ∀ t : ST, t.ty.fOp = match t with | .v _ => 1 | .k _ => 2 | .a _ _ => 3
 | .v _ => rfl
 | .k _ => rfl
 | .a _ _ => rfl
theorem ZBJ (L : SB) (t : ST) : ZcI (L.map toB) t.ty = some (t.res L).ty := by
 unfold ZcI ZdV
 cases t with
 | v s =>
  show (if true = true then _ else _) = _
  rw [ifT]
  show (Zdh (L.map toB) s >>= _) = _
  rw [Zym, Zm]
  rcases ZsH s L with ⟨h1, h2⟩ | ⟨i, p, h1, h2, h3, h4⟩
  ·rw [h1, ST.res, h2]; rfl
  ·rw [h1, ST.res, h4]
   show (if decide (((i : Nat) : Int) ≥ 0) = true then _ else _) = _
   rw [decide_eq_true (Int.natCast_nonneg i), ifT]
   show (ixI _ ((i : Nat) : Int) >>= _) = _
   rw [Zk4, List.getElem?_map, h2]
   rfl
 | k s => rfl
 | a f x => rfl
theorem ZBD (L : SB) (t : ST) : ZaC ⟨L.map toB, atL 0 L⟩ t.ty = some (t.res L).ty := by
 unfold ZaC Za9
 cases t with
 | v s =>
  show (if true = true then _ else _) = _
  rw [ifT]
  show (Zeh (atL 0 L) 0 s >>= _) = _
  rw [ZuH, Zm]
  rcases ZsH s L with ⟨h1, h2⟩ | ⟨i, p, h1, h2, h3, h4⟩
  ·rw [h1, ST.res, h2]; rfl
  ·rw [h1, ST.res, h4]
   show (ixI (L.map toB) ((i : Nat) : Int) >>= _) = _
   rw [Zk4, List.getElem?_map, h2]
   rfl
 | k s => rfl
 | a f x => rfl
def ST.sub (L : SB) : ST → ST
 | .v s => (lk s L).getD (.v s)
 | .k s => .k s
 | .a f x => .a (f.sub L) (x.sub L)
def ST.occ (v : ByteArray) : ST → Bool
 | .v s => decide (s = v)
 | .k _ => false
 | .a f x => f.occ v || x.occ v
def ST.fr (l : List ByteArray) : ST → List ByteArray
 | .v s => if l.contains s = true then l else l ++ [s]
 | .k _ => l
 | .a f x => x.fr (f.fr l)
theorem ZoD (l : List ByteArray) (x : ByteArray) : l.contains x = true ↔ x ∈ l := by
 induction l with
 | nil => simp
 | cons a l ih => rw [List.contains_cons, Bool.or_eq_true, ih, ZrR, decide_eq_true_iff, List.mem_cons]
theorem Zu8 (t : ST) : ∀ l, (t.fr l).length ≤ l.length + t.nod := by
 induction t with
 | v s => intro l; rw [ST.fr, ST.nod]; split <;> simp
 | k s => intro l; rw [ST.fr]; omega
 | a f x ihf ihx => intro l; rw [ST.fr, ST.nod]; have h1 := ihf l; have h2 := ihx (f.fr l); omega
theorem Zm8 (x : ByteArray) (t : ST) : ∀ l, x ∈ t.fr l ↔ x ∈ l ∨ t.occ x = true := by
 induction t with
 | v s =>
  intro l
  rw [ST.fr, ST.occ, decide_eq_true_iff]
  by_cases h : l.contains s = true
  ·rw [if_pos h]
   exact ⟨.inl, fun h' => h'.elim id fun e => e ▸ (ZoD l s).1 h⟩
  ·rw [if_neg h, List.mem_append, List.mem_singleton]
   exact ⟨fun h' => h'.imp id Eq.symm, fun h' => h'.imp id Eq.symm⟩
 | k s => intro l; rw [ST.fr, ST.occ]; simp
 | a f x' ihf ihx => intro l; rw [ST.fr, ST.occ, ihx, ihf, Bool.or_eq_true, or_assoc]
theorem ZwX (s : List ByteArray) (v : ByteArray) : ∀ (xs : List ByteArray) (k : Nat), ∃ r, Zas s v k xs = some r ∧ decide (r ≥ 0) = xs.contains v
 | [], k => ⟨-1, by rw [Zas], rfl⟩
 | x :: xs, k => by
  obtain ⟨r, h1, h2⟩ := ZwX s v xs (k + 1)
  rw [Zas, ZkU, List.contains_cons, ZrR]
  by_cases h : v = x
  ·exact ⟨_, by rw [decide_eq_true h, ifT], by rw [decide_eq_true h, Bool.true_or]; exact decide_eq_true (Int.natCast_nonneg k)⟩
  ·exact ⟨r, by rw [decide_eq_false h, ifF, h1], by rw [decide_eq_false h, Bool.false_or, h2]⟩
theorem Znt (s : List ByteArray) (v : ByteArray) : Zaj s v = some (s.contains v) := by
 obtain ⟨r, h1, h2⟩ := ZwX s v s 0
 rw [Zaj, ZcJ, h1, Zm, h2]
theorem Zs5 (l b : List ByteArray) (t : Za) (k : Nat) : ZbA l b t k [] = some l := by rw [ZbA]
theorem ZC7 (t : ST) : ∀ l : List ByteArray, l.length + t.nod ≤ 1000000000000 → ZcK l [] t.ty = some (t.fr l) := by
 induction t with
 | v s =>
  intro l hl
  rw [ST.ty, ZcK, ZbB, ZbB]
  show (if true = true then _ else _) = _
  rw [ifT]
  show (Zaj [] s >>= _) = _
  rw [Znt, Zm]
  show ((if true = true then (Zaj l s >>= fun r => some (!r)) else some false) >>= _) = _
  rw [Zy4, Znt, Zm, Zm, ST.fr]
  show (if (!l.contains s) = true then (ZK _ >>= fun _ => ZbA (l ++ [s]) [] _ 0 []) else ZbA l [] _ 0 []) = _
  rw [Zs5, Zs5]
  cases l.contains s with
  | true => rfl
  | false =>
   rw [Bool.not_false, ifT, Zc0]
   ·rfl
   ·rw [ST.nod] at hl; simp only [List.length_cons, List.length_nil]; omega
 | k s => intro l hl; rw [ST.ty, ZcK, ZbB, ZbB]; exact Zs5 _ _ _ _
 | a f x ihf ihx =>
  intro l hl
  rw [ST.nod] at hl
  have h1 := Zu8 f l
  rw [ST.ty, ZcK, ZbB, ZbB]
  show (if (((3 : Int) == 1)) = true then _ else if (((3 : Int) == 4)) = true then _ else ZbA l [] _ 0 [f.ty, x.ty]) = _
  rw [if_neg (by decide), if_neg (by decide), ZbA, ihf l (by omega), Zm, ZbA, ihx _ (by omega), Zm, ZbA, ST.fr]
theorem ZAG (t : ST) (h : t.good) : Zes t.ty = some (t.fr []) := by
 have hb := ZcN.1 h.2
 rw [Zes, Zrf t h, Zm, ZC7 t [] (by simp; omega)]; rfl
theorem ZwU (s : List ByteArray) (v : ByteArray) : ∀ (xs : List ByteArray) (k : Nat), Zbt s v k xs = some (xs.contains v)
 | [], k => by rw [Zbt]; rfl
 | x :: xs, k => by
  rw [Zbt, ZkU, List.contains_cons, ZrR, ZwU s v xs (k + 1)]
  by_cases h : x = v
  ·rw [decide_eq_true h, decide_eq_true h.symm]; rfl
  ·rw [decide_eq_false h, decide_eq_false (fun e => h e.symm)]; rfl
theorem Zp2 (L : SB) (v : ByteArray) (t : ST) : (t.sub L).occ v = true ↔ ∃ x, t.occ x = true ∧ ((lk x L = none ∧ x = v) ∨ ∃ u, lk x L = some u ∧ u.occ v = true) := by
 induction t with
 | v s =>
  rw [ST.sub]
  simp only [ST.occ, decide_eq_true_eq]
  cases hl : lk s L with
  | none =>
   simp only [Option.getD_none, ST.occ, decide_eq_true_eq]
   exact ⟨fun h => ⟨s, rfl, .inl ⟨hl, h⟩⟩, fun ⟨x, hx, h⟩ => by subst hx; rw [hl] at h; simpa using h⟩
  | some u =>
   simp only [Option.getD_some]
   exact ⟨fun h => ⟨s, rfl, .inr ⟨u, hl, h⟩⟩, fun ⟨x, hx, h⟩ => by subst hx; rw [hl] at h; simpa using h⟩
 | k s => simp [ST.sub, ST.occ]
 | a f x ihf ihx =>
  rw [ST.sub, ST.occ, Bool.or_eq_true, ihf, ihx]
  simp only [ST.occ, Bool.or_eq_true]
  exact ⟨fun h => h.elim (fun ⟨y, h1, h2⟩ => ⟨y, .inl h1, h2⟩) (fun ⟨y, h1, h2⟩ => ⟨y, .inr h1, h2⟩), fun ⟨y, h1, h2⟩ => h1.elim (fun h1 => .inl ⟨y, h1, h2⟩) (fun h1 => .inr ⟨y, h1, h2⟩)⟩
def Zgx (L : SB) : Prop := ∀ p ∈ L, p.2.good ∧ Zhk p.1 = true ∧ p.1.size ≤ 1048576
theorem Zno {x : ByteArray} {u : ST} : ∀ {L : SB}, lk x L = some u → (x, u) ∈ L
 | p :: L, h => by
  rw [lk] at h
  by_cases hx : p.1 = x
  ·rw [if_pos hx] at h; injection h with h; subst hx h; exact List.mem_cons_self ..
  ·rw [if_neg hx] at h; exact List.mem_cons_of_mem _ (Zno h)
theorem ZwG (L : SB) (hL : Zgx L) (v : ByteArray) (r1 : List ByteArray) : ∀ (xs : List ByteArray) (k : Nat), Zar v r1 k ⟨L.map toB, atL 0 L⟩ xs = some (xs.any fun x => decide (x = v) || ((lk x L).any fun u => u.occ v))
 | [], k => by rw [Zar]; rfl
 | x :: xs, k => by
  rw [Zar, ZkU, List.any_cons]
  by_cases h : x = v
  ·rw [decide_eq_true h]; rfl
  ·rw [decide_eq_false h, ifF, ZuH, Zm, Bool.false_or, ZwG L hL v r1 xs (k + 1)]
   rcases ZsH x L with ⟨h1, h2⟩ | ⟨i, p, h1, h2, h3, h4⟩
   ·rw [h1, h2]; rfl
   ·rw [h1, h4]
    show (((ixI (L.map toB) ((i : Nat) : Int)) >>= _) >>= _) = _
    rw [Zk4, List.getElem?_map, h2]
    show ((Zes p.2.ty >>= _) >>= _) = _
    rw [ZAG p.2 (hL p (List.mem_of_getElem? h2)).1, Zm, Znt, Zm, Zm]
    have : (p.2.fr []).contains v = p.2.occ v := by
     rw [Bool.eq_iff_iff, ZoD, Zm8]; simp
    rw [this, Option.any_some]
    cases p.2.occ v <;> rfl
theorem ZFT (L : SB) (hL : Zgx L) (v : ByteArray) (t : ST) (ht : t.good) (hv : lk v L = none) : Zcd ⟨L.map toB, atL 0 L⟩ v t.ty = some ((t.sub L).occ v) := by
 rw [Zcd, ZAG t ht, Zm, ZwG L hL]
 congr 1
 rw [Bool.eq_iff_iff, List.any_eq_true, Zp2]
 constructor
 ·rintro ⟨x, hx, h⟩
  have hx := ((Zm8 x t []).1 hx).resolve_left (by simp)
  rw [Bool.or_eq_true, decide_eq_true_iff] at h
  rcases h with h | h
  ·exact ⟨x, hx, .inl ⟨h ▸ hv, h⟩⟩
  ·cases hl : lk x L with
   | none => rw [hl] at h; cases h
   | some u => rw [hl] at h; exact ⟨x, hx, .inr ⟨u, hl, h⟩⟩
 ·rintro ⟨x, hx, h⟩
  refine ⟨x, (Zm8 x t []).2 (.inr hx), ?_⟩
  rw [Bool.or_eq_true, decide_eq_true_iff]
  rcases h with ⟨_, h⟩ | ⟨u, hl, h⟩
  ·exact .inl h
  ·exact .inr (by rw [hl]; exact h)
theorem ZDU (v : ByteArray) (t : ST) : ZaQ [] v t.ty = some (t.occ v) := by
 induction t with
 | v s =>
  rw [ST.ty, ZaQ]
  show (if true = true then _ else _) = _
  rw [ifT, Zdh, ZcV, Zm]
  show some _ = _
  rw [ZkU]; rfl
 | k s => rw [ST.ty, ZaQ]; show Z3 _ v 0 _ [] = _; rw [Z3]; rfl
 | a f x ihf ihx =>
  rw [ST.ty, ZaQ]
  show (Z3 [] v 0 _ [f.ty, x.ty]) = _
  rw [Z3, ihf, Zm, ST.occ, Z3, ihx, Zm, Z3]
  cases f.occ v <;> cases x.occ v <;> rfl
theorem ZFq (L : SB) (v : ByteArray) (t : ST) : ZaQ (L.map toB) v t.ty = some ((t.sub L).occ v) := by
 induction t with
 | v s =>
  rw [ST.ty, ZaQ]
  show (if true = true then _ else _) = _
  rw [ifT]
  show (Zdh (L.map toB) s >>= _) = _
  rw [Zym, Zm, ST.sub]
  rcases ZsH s L with ⟨h1, h2⟩ | ⟨i, p, h1, h2, h3, h4⟩
  ·rw [h1, h2]
   show some _ = _
   rw [ZkU]; rfl
  ·rw [h1, h4]
   show (if decide (((i : Nat) : Int) ≥ 0) = true then _ else _) = _
   rw [decide_eq_true (Int.natCast_nonneg i), ifT]
   show (ixI _ ((i : Nat) : Int) >>= _) = _
   rw [Zk4, List.getElem?_map, h2]
   show (ZaQ [] v p.2.ty >>= _) = _
   rw [ZDU]; rfl
 | k s => rw [ST.ty, ZaQ]; show Z3 _ v 0 _ [] = _; rw [Z3]; rfl
 | a f x ihf ihx =>
  rw [ST.ty, ZaQ]
  show (Z3 _ v 0 _ [f.ty, x.ty]) = _
  rw [Z3, ihf, Zm, ST.sub, ST.occ, Z3, ihx, Zm, Z3]
  cases (f.sub L).occ v <;> cases (x.sub L).occ v <;> rfl

def zty : Za := Za.mk 0 (ByteArray.mk #[]) (Zi.mk []) []
def Zqq (c : List (ByteArray × Za)) (L : SB) : Prop := ∀ x, Zff x c = (lk x L).map ST.ty
theorem ZhC {c : List (ByteArray × Za)} {L : SB} (h : Zqq c L) (x : ByteArray) : Zeh c zty x = some (match lk x L with | some u => (u.ty, true) | none => (zty, false)) := by
 unfold Zeh
 rw [h x]
 cases lk x L <;> rfl
theorem Zqr {β : Type} (x k : ByteArray) (v : β) : ∀ c : List (ByteArray × β), Zff x (Zhl c k v) = if x = k then some v else Zff x c
 | [] => by
  rw [Zhl, Zff, Zff, ZrR]
  by_cases h : x = k
  ·rw [decide_eq_true h, ifT, if_pos h]
  ·rw [decide_eq_false h, ifF, if_neg h]; rfl
 | p :: c => by
  rw [Zhl, ZrR]
  by_cases hk : k = p.1
  ·rw [decide_eq_true hk, ifT, Zff, Zff, ZrR, ZrR]
   by_cases h : x = k
   ·rw [decide_eq_true h, ifT, if_pos h]
   ·rw [decide_eq_false h, ifF, if_neg h, decide_eq_false (fun e => h (e.trans hk.symm)), ifF]
  ·rw [decide_eq_false hk, ifF, Zff, Zff, ZrR, Zqr x k v c]
   by_cases h : x = p.1
   ·rw [decide_eq_true h, ifT, ifT, if_neg (fun e => hk (e.symm.trans h))]
   ·rw [decide_eq_false h, ifF, ifF]
theorem Zvt (x : ByteArray) (M : SB) : ∀ L : SB, lk x (L ++ M) = match lk x L with | some u => some u | none => lk x M
 | [] => rfl
 | p :: L => by
  rw [List.cons_append, lk, lk]
  by_cases h : p.1 = x
  ·rw [if_pos h, if_pos h]
  ·rw [if_neg h, if_neg h, Zvt x M L]
theorem ZsM : ZaG (Zi.mk []) = some (Zi.mk []) := by rw [ZaG]; show ZbG _ 0 [] [] = _; rw [ZbG]
theorem Zzq (t : ST) : Zb1 t.ty = some t.ty := by
 induction t with
 | v s => rw [ST.ty, Zb1]; show (ZaG (Zi.mk []) >>= _) = _; rw [ZsM, Zm]; show ZaU _ 0 _ [] [] = _; rw [ZaU]; rfl
 | k s => rw [ST.ty, Zb1]; show (ZaG (Zi.mk []) >>= _) = _; rw [ZsM, Zm]; show ZaU _ 0 _ [] [] = _; rw [ZaU]; rfl
 | a f x ihf ihx =>
  rw [ST.ty, Zb1]
  show (ZaG (Zi.mk []) >>= _) = _
  rw [ZsM, Zm]
  show ZaU _ 0 _ [] [f.ty, x.ty] = _
  rw [ZaU, ihf, Zm, Zc0 _ (by simp only [List.length_append, List.length_cons, List.length_nil]; decide), ZaU, ihx, Zm, Zc0 _ (by simp only [List.length_append, List.length_cons, List.length_nil]; decide), ZaU]
  rfl
theorem ZyY (t : ST) : Zb2 t.ty = some t.ty := by
 induction t with
 | v s => rw [ST.ty, Zb2]; show ZaT _ 0 [] [] = _; rw [ZaT]; rfl
 | k s => rw [ST.ty, Zb2]; show ZaT _ 0 [] [] = _; rw [ZaT]; rfl
 | a f x ihf ihx =>
  rw [ST.ty, Zb2]
  show ZaT _ 0 [] [f.ty, x.ty] = _
  rw [ZaT, ihf, Zm, Zc0 _ (by simp only [List.length_append, List.length_cons, List.length_nil]; decide), ZaT, ihx, Zm, Zc0 _ (by simp only [List.length_append, List.length_cons, List.length_nil]; decide), ZaT]
  rfl
theorem Zmm {L : SB} (hL : Zgx L) {x : ByteArray} {u : ST} (h : lk x L = some u) : u.good := (hL _ (Zno h)).1
theorem ZBs (t : ST) : 1 ≤ t.nod := by cases t <;> simp [ST.nod]; omega
theorem ZkT (t : ST) : t.dep ≤ t.nod := by
 induction t with
 | v s => exact Nat.le_refl _
 | k s => exact Nat.le_refl _
 | a f x ihf ihx => rw [ST.dep, ST.nod]; omega
theorem Zw2 {L : SB} (hL : Zgx L) (t : ST) : (t.sub L).nod ≤ 20000 * t.nod := by
 induction t with
 | v s =>
  rw [ST.sub]
  cases h : lk s L with
  | none => simp [ST.nod]
  | some u => have := ZcN.1 (Zmm hL h).2; simp only [Option.getD_some, ST.nod]; omega
 | k s => rw [ST.sub, ST.nod]; omega
 | a f x ihf ihx => rw [ST.sub, ST.nod, ST.nod]; omega
theorem ZnW {L : SB} (hL : Zgx L) (t : ST) (ht : t.nms = true) : (t.sub L).nms = true := by
 induction t with
 | v s =>
  rw [ST.sub]
  cases h : lk s L with
  | none => exact ht
  | some u => exact (Zmm hL h).1
 | k s => exact ht
 | a f x ihf ihx => rw [ST.nms, Bool.and_eq_true] at ht; rw [ST.sub, ST.nms, ihf ht.1, ihx ht.2]; rfl
theorem Zzf {c : List (ByteArray × Za)} {L : SB} (hc : Zqq c L) (hL : Zgx L) (t : ST) : t.nod ≤ 20000 → Zby c t.ty = some ((((t.sub L).nod : Nat) : Int), (((t.sub L).dep : Nat) : Int)) := by
 induction t with
 | v s =>
  intro hb
  rw [ST.ty, Zby]
  show (Zeh c zty s >>= _) = _
  rw [ZhC hc, Zm, ST.sub]
  cases h : lk s L with
  | some u =>
   have hg := ZcN.1 (Zmm hL h).2
   show (Zcg u.ty >>= _) = _
   rw [ZAy _ (by rw [Zhb]; have : BIG = 1000000000000 := rfl; omega), Zm, Zw1 _ (by rw [Zhb]; have : BIG = 1000000000000 := rfl; omega), Zm, Zhb, Znp]
   rfl
  | none =>
   show (Zeh c zty s >>= _) = _
   rw [ZhC hc, Zm, h]
   show Z8 0 0 _ 0 c [] = _
   rw [Z8]; rfl
 | k s =>
  intro hb
  rw [ST.ty, Zby]
  show (Zeh c zty s >>= _) = _
  rw [ZhC hc, Zm, ST.sub]
  have hf : ∀ r : Za × Bool, (if (r.2 && ((2 : Int) == 1)) = true then (Zcg r.1 >>= fun r12 => ZbU r.1 >>= fun r13 => some (r12, r13)) else Zeh c zty s >>= fun r16 => if (r16.2 && ((2 : Int) == 4)) = true then none else Z8 0 0 (Za.mk 2 s (Zi.mk []) []) 0 c []) = some (((1 : Nat) : Int), ((1 : Nat) : Int)) := by
   intro r
   rw [show (r.2 && ((2 : Int) == 1)) = false from by rw [show ((2 : Int) == 1) = false from rfl, Bool.and_false], ifF, ZhC hc, Zm]
   have h2 : ∀ q : Za × Bool, (if (q.2 && ((2 : Int) == 4)) = true then none else Z8 0 0 (Za.mk 2 s (Zi.mk []) []) 0 c []) = Z8 0 0 (Za.mk 2 s (Zi.mk []) []) 0 c [] := fun q => by
    rw [show (q.2 && ((2 : Int) == 4)) = false from by rw [show ((2 : Int) == 4) = false from rfl, Bool.and_false], ifF]
   rw [h2, Z8]; rfl
  exact hf _
 | a f x ihf ihx =>
  intro hb
  rw [ST.nod] at hb
  have e := Zw2 hL (.a f x)
  have d1 := ZkT (f.sub L)
  have d2 := ZkT (x.sub L)
  rw [ST.sub, ST.nod, ST.nod] at e
  rw [ST.ty, Zby]
  show (Zeh c zty (ByteArray.mk #[]) >>= _) = _
  rw [ZhC hc, Zm, ST.sub, ST.nod, ST.dep]
  have hf : ∀ r : Za × Bool, (if (r.2 && ((3 : Int) == 1)) = true then (Zcg r.1 >>= fun r12 => ZbU r.1 >>= fun r13 => some (r12, r13)) else Zeh c zty (ByteArray.mk #[]) >>= fun r16 => if (r16.2 && ((3 : Int) == 4)) = true then none else Z8 0 0 (Za.mk 3 (ByteArray.mk #[]) (Zi.mk []) [f.ty, x.ty]) 0 c [f.ty, x.ty]) = some (((1 + (f.sub L).nod + (x.sub L).nod : Nat) : Int), ((max (f.sub L).dep (x.sub L).dep + 1 : Nat) : Int)) := by
   intro r
   rw [show (r.2 && ((3 : Int) == 1)) = false from by rw [show ((3 : Int) == 1) = false from rfl, Bool.and_false], ifF, ZhC hc, Zm]
   have h2 : ∀ q : Za × Bool, (if (q.2 && ((3 : Int) == 4)) = true then none else Z8 0 0 (Za.mk 3 (ByteArray.mk #[]) (Zi.mk []) [f.ty, x.ty]) 0 c [f.ty, x.ty]) = Z8 0 0 (Za.mk 3 (ByteArray.mk #[]) (Zi.mk []) [f.ty, x.ty]) 0 c [f.ty, x.ty] := fun q => by
    rw [show (q.2 && ((3 : Int) == 4)) = false from by rw [show ((3 : Int) == 4) = false from rfl, Bool.and_false], ifF]
   rw [h2, Z8, ihf (by omega), Zm, Z8, ihx (by omega), Zm, Z8]
   have z0 := Zfe (f.sub L).dep 0
   rw [Int.natCast_zero, Nat.max_eq_right (Nat.zero_le _)] at z0
   show some (IntKind.i64.wrap (IntKind.i64.wrap (IntKind.i64.wrap (0 + (((f.sub L).nod : Nat) : Int)) + (((x.sub L).nod : Nat) : Int)) + 1), IntKind.i64.wrap ((if (((x.sub L).dep : Nat) : Int) > (if (((f.sub L).dep : Nat) : Int) > 0 then (((f.sub L).dep : Nat) : Int) else 0) then (((x.sub L).dep : Nat) : Int) else (if (((f.sub L).dep : Nat) : Int) > 0 then (((f.sub L).dep : Nat) : Int) else 0)) + 1)) = _
   have w1 : IntKind.i64.wrap (((f.sub L).nod : Nat) : Int) = (((f.sub L).nod : Nat) : Int) := w64 (by omega) (by omega)
   have w2 : IntKind.i64.wrap ((((f.sub L).nod : Nat) : Int) + (((x.sub L).nod : Nat) : Int)) = (((f.sub L).nod : Nat) : Int) + (((x.sub L).nod : Nat) : Int) := w64 (by omega) (by omega)
   rw [z0, Zfe, Int.zero_add, w1, w2, w64 (by omega) (by omega), w64 (by omega) (by omega)]
   refine congrArg some (Prod.ext ?_ ?_)
   ·show _ = ((1 + (f.sub L).nod + (x.sub L).nod : Nat) : Int); omega
   ·show _ = ((max (f.sub L).dep (x.sub L).dep + 1 : Nat) : Int); omega
  exact hf _
theorem ZBH {c : List (ByteArray × Za)} {L : SB} (hc : Zqq c L) (t : ST) : Zcn c t.ty = some (t.sub L).ty := by
 induction t with
 | v s =>
  rw [ST.ty, Zcn]
  show (Zeh c zty s >>= _) = _
  rw [ZhC hc, Zm, ST.sub]
  cases h : lk s L with
  | some u => show (Zb1 u.ty >>= _) = _; rw [Zzq]; rfl
  | none => rfl
 | k s => rw [ST.ty, Zcn]; show ZbM _ 0 [] c [] = _; rw [ZbM]; rfl
 | a f x ihf ihx =>
  rw [ST.ty, Zcn]
  show ZbM _ 0 [] c [f.ty, x.ty] = _
  rw [ZbM, ihf, Zm, Zc0 _ (by simp only [List.length_append, List.length_cons, List.length_nil]; decide), ZbM, ihx, Zm, Zc0 _ (by simp only [List.length_append, List.length_cons, List.length_nil]; decide), ZbM]
  rfl
def ZjF (L : SB) (t : ST) : Za := if (t.sub L).big = true then zty else (t.sub L).ty
theorem ZA2 (a b : Nat) : (decide (((a : Nat) : Int) > 20000) || decide (((b : Nat) : Int) > 100)) = (decide (20000 < a) || decide (100 < b)) := by
 congr 1
 ·exact decide_eq_decide.2 (by omega)
 ·exact decide_eq_decide.2 (by omega)
theorem ZuC {c : List (ByteArray × Za)} {M : SB} (hc : Zqq c M) (p : ByteArray × ST) : Zqq (match Zff p.1 c with | some _ => c | none => Zhl c p.1 p.2.ty) (M ++ [p]) := by
 intro x
 rw [Zvt]
 have e := hc p.1
 cases h : lk p.1 M with
 | some u =>
  rw [h] at e
  rw [e]
  show Zff x c = _
  rw [hc x]
  cases hx : lk x M with
  | some w => rfl
  | none =>
   show none = (lk x [p]).map ST.ty
   rw [lk, if_neg (fun e => by rw [e] at h; rw [h] at hx; cases hx)]; rfl
 | none =>
  rw [h] at e
  rw [e]
  show Zff x (Zhl c p.1 p.2.ty) = _
  rw [Zqr]
  by_cases hx : x = p.1
  ·rw [if_pos hx, hx, h]; show _ = (lk p.1 [p]).map ST.ty; rw [lk, if_pos rfl]; rfl
  ·rw [if_neg hx, hc x]
   cases lk x M with
   | some w => rfl
   | none => show none = (lk x [p]).map ST.ty; rw [lk, if_neg (fun e => hx e.symm)]; rfl
theorem ZwJ (s : List Ze) (t : ST) (ht : t.good) : ∀ (L M : SB) (c : List (ByteArray × Za)) (k : Nat), Zqq c M → Zgx (M ++ L) → Zb4 s k t.ty c (L.map toB) = some (ZjF (M ++ L) t)
 | [], M, c, k, hc, hg => by
  have hb := ZcN.1 ht.2
  rw [List.append_nil] at hg ⊢
  rw [List.map_nil, Zb4, Zzf hc hg t (by omega), Zm, ZA2]
  show (if (t.sub M).big = true then _ else _) = _
  unfold ZjF
  cases (t.sub M).big with
  | true => rfl
  | false => rw [ifF, ifF, ZBH hc, Zm]
 | p :: L, M, c, k, hc, hg => by
  have hp := hg p (by simp)
  have ih := ZwJ s t ht L (M ++ [p]) (match Zff p.1 c with | some _ => c | none => Zhl c p.1 p.2.ty) (k + 1) (ZuC hc p) (by simpa using hg)
  rw [List.append_assoc, List.singleton_append] at ih
  rw [List.map_cons, Zb4]
  show (ZaW p.1 >>= _) = _
  rw [ZAn _ (by omega), Zm, hp.2.1]
  show ((ZbT p.2.ty >>= _) >>= _) = _
  rw [Zrf _ hp.1, Zm, Zm]
  show (Zeh c zty p.1 >>= _) = _
  rw [Zeh]
  cases h : Zff p.1 c with
  | some w => rw [h] at ih; exact ih
  | none => rw [h] at ih; exact ih
theorem ZF8 (L : SB) (hL : Zgx L) (t : ST) (ht : t.good) : Zei (L.map toB) t.ty = some (ZjF L t) := by
 rw [Zei, Zrf t ht, Zm]
 exact ZwJ _ t ht L [] [] 0 (fun x => rfl) hL
theorem Zux (s : List Ze) (t : ST) (ht : t.good) : ∀ (L M : SB) (c : List (ByteArray × Za)) (k : Nat), Zqq c M → Zgx (M ++ L) → ZbK s k t.ty c (L.map toB) = some (ZjF (M ++ L) t)
 | [], M, c, k, hc, hg => by
  have hb := ZcN.1 ht.2
  rw [List.append_nil] at hg ⊢
  rw [List.map_nil, ZbK, Zzf hc hg t (by omega), Zm, ZA2]
  show (if (t.sub M).big = true then _ else _) = _
  unfold ZjF
  cases (t.sub M).big with
  | true => rfl
  | false => rw [ifF, ifF, ZBH hc, Zm]
 | p :: L, M, c, k, hc, hg => by
  have hp := hg p (by simp)
  have ih := Zux s t ht L (M ++ [p]) (match Zff p.1 c with | some _ => c | none => Zhl c p.1 p.2.ty) (k + 1) (ZuC hc p) (by simpa using hg)
  rw [List.append_assoc, List.singleton_append] at ih
  rw [List.map_cons, ZbK]
  show (ZaW p.1 >>= _) = _
  rw [ZAn _ (by omega), Zm, hp.2.1]
  show ((ZbT p.2.ty >>= _) >>= _) = _
  rw [Zrf _ hp.1, Zm, Zm]
  show (Zeh c zty p.1 >>= _) = _
  rw [Zeh]
  cases h : Zff p.1 c with
  | some w => rw [h] at ih; exact ih
  | none => rw [h] at ih; exact ih
theorem ZDY (L : SB) (hL : Zgx L) (t : ST) (ht : t.good) : ZdS (L.map toB) t.ty = some (ZjF L t) := by
 rw [ZdS, Zrf t ht, Zm]
 exact Zux _ t ht L [] [] 0 (fun x => rfl) hL
theorem ZuU (s : List Ze) (x : ByteArray) : ∀ (L : SB) (k : Nat), Zat s x k (L.map toB) = some (match lk x L with | some u => (u.ty, true) | none => (zty, false))
 | [], k => by rw [List.map_nil, Zat]; rfl
 | p :: L, k => by
  rw [List.map_cons, Zat, ZkU, lk]
  show (if decide (p.1 = x) = true then _ else _) = _
  by_cases h : p.1 = x
  ·rw [decide_eq_true h, ifT, if_pos h]; rfl
  ·rw [decide_eq_false h, ifF, if_neg h, ZuU s x L (k + 1)]
theorem Zy6 (L : SB) (x : ByteArray) : ZaI (L.map toB) x = some (match lk x L with | some u => (u.ty, true) | none => (zty, false)) := by rw [ZaI, ZuU]
theorem ZCq (L : SB) (hL : Zgx L) (t : ST) : t.nod ≤ 20000 → ZM (L.map toB) [] t.ty = some ((((t.sub L).nod : Nat) : Int), (((t.sub L).dep : Nat) : Int)) := by
 induction t with
 | v s =>
  intro hb
  rw [ST.ty, ZM]
  show ((if true = true then (Za0 [] s >>= fun r => some (!r)) else some false) >>= _) = _
  rw [Zy4, Za0, ZwU, Zm, Zm]
  show (ZaI (L.map toB) s >>= _) = _
  rw [Zy6, Zm, ST.sub]
  cases h : lk s L with
  | some u =>
   have hg := ZcN.1 (Zmm hL h).2
   show (Zai u.ty >>= _) = _
   rw [ZqS _ (by rw [Zhb]; have : BIG = 1000000000000 := rfl; omega), Zm, ZnM _ (by rw [Zhb]; have : BIG = 1000000000000 := rfl; omega), Zm, Zhb, Znp]
   rfl
  | none =>
   show ZH _ [] _ = _
   rw [ZH]
   show ZG _ [] _ = _
   rw [ZG]
   show Zw _ [] 1 0 0 _ [] = _
   rw [Zw]; rfl
 | k s =>
  intro hb
  rw [ST.ty, ZM]
  show ZH _ [] _ = _
  rw [ZH]
  show ZG _ [] _ = _
  rw [ZG]
  show Zw _ [] 1 0 0 _ [] = _
  rw [Zw]; rfl
 | a f x ihf ihx =>
  intro hb
  rw [ST.nod] at hb
  have e := Zw2 hL (.a f x)
  have d1 := ZkT (f.sub L)
  have d2 := ZkT (x.sub L)
  rw [ST.sub, ST.nod, ST.nod] at e
  rw [ST.ty, ZM, ST.sub, ST.nod, ST.dep]
  show ZH _ [] _ = _
  rw [ZH]
  show ZG _ [] _ = _
  rw [ZG]
  show Zw _ [] 1 0 0 _ [f.ty, x.ty] = _
  rw [Zw, ihf (by omega), Zm, Zw, ihx (by omega), Zm, Zw]
  have z0 := Zfe (f.sub L).dep 0
  rw [Int.natCast_zero, Nat.max_eq_right (Nat.zero_le _)] at z0
  show some (IntKind.i64.wrap (IntKind.i64.wrap (1 + (((f.sub L).nod : Nat) : Int)) + (((x.sub L).nod : Nat) : Int)), IntKind.i64.wrap ((if (((x.sub L).dep : Nat) : Int) > (if (((f.sub L).dep : Nat) : Int) > 0 then (((f.sub L).dep : Nat) : Int) else 0) then (((x.sub L).dep : Nat) : Int) else (if (((f.sub L).dep : Nat) : Int) > 0 then (((f.sub L).dep : Nat) : Int) else 0)) + 1)) = _
  have w1 : IntKind.i64.wrap (1 + (((f.sub L).nod : Nat) : Int)) = 1 + (((f.sub L).nod : Nat) : Int) := w64 (by omega) (by omega)
  rw [z0, Zfe, w1, w64 (by omega) (by omega), w64 (by omega) (by omega)]
  refine congrArg some (Prod.ext ?_ ?_)
  ·show _ = ((1 + (f.sub L).nod + (x.sub L).nod : Nat) : Int); omega
  ·show _ = ((max (f.sub L).dep (x.sub L).dep + 1 : Nat) : Int); omega
theorem ZFZ (L : SB) (t : ST) : ZB (L.map toB) t.ty = some (t.sub L).ty := by
 induction t with
 | v s =>
  rw [ST.ty, ZB]
  show (ZaI (L.map toB) s >>= _) = _
  rw [Zy6, Zm, ST.sub]
  cases h : lk s L <;> rfl
 | k s => rw [ST.ty, ZB]; rfl
 | a f x ihf ihx =>
  rw [ST.ty, ZB]
  show ((some x.ty) >>= fun ZCZ => (some f.ty) >>= fun ZCD => ZB (L.map toB) ZCD >>= fun ZEc => ZB (L.map toB) ZCZ >>= fun ZDt => Zc4 ZEc ZDt >>= fun ZCv => some ZCv) = _
  rw [Zm, Zm, ihf, Zm, ihx, Zm]; rfl
theorem ZwF (M : SB) (t : ST) (ht : t.good) (hM : Zgx M) : ∀ (L : SB) (k : Nat), Zgx L → ZW (M.map toB) k t.ty (L.map toB) = some (ZjF M t)
 | [], k, _ => by
  have hb := ZcN.1 ht.2
  rw [List.map_nil, ZW, ZCq M hM t (by omega), Zm, ZA2]
  show (if (t.sub M).big = true then _ else _) = _
  unfold ZjF
  cases (t.sub M).big with
  | true => rfl
  | false => rw [ifF, ifF, ZFZ, Zm]
 | p :: L, k, hg => by
  have hp := hg p (by simp)
  rw [List.map_cons, ZW]
  show (Zbi p.1 >>= _) = _
  rw [Zxj _ (by omega), Zm, hp.2.1]
  show ((Zag p.2.ty >>= _) >>= _) = _
  rw [ZvC _ hp.1, Zm, Zm]
  exact ZwF M t ht hM L (k + 1) fun q hq => hg q (by simp [hq])
theorem ZAx (L : SB) (hL : Zgx L) (t : ST) (ht : t.good) : Z7 (L.map toB) t.ty = some (ZjF L t) := by
 rw [Z7, ZvC t ht, Zm]
 exact ZwF L t ht hL L 0 hL
theorem Zop (L : SB) (t : ST) : ((ZjF L t).fOp == 0) = (t.sub L).big := by
 unfold ZjF
 cases (t.sub L).big with
 | true => rfl
 | false => rw [ifF, ZED]; cases t.sub L <;> rfl

def bg (v : ByteArray) (u : ST) (p : ByteArray × ST) : ByteArray × ST := (p.1, p.2.sub [(v, u)])
def ZmS (v : ByteArray) (u : ST) (p : ByteArray × ST) : Bool := (p.2.sub [(v, u)]).big
theorem ZGw {A : SB} {x : Nat} (hx : A.length = x) (p q : ByteArray × ST) (B : SB) : (((A ++ p :: B).map toB).set x (toB q)) = ((A ++ [q]) ++ B).map toB := by
 subst hx
 rw [List.map_append, List.map_append, List.map_append, List.map_cons, List.set_append_right _ _ (by simp), List.length_map, Nat.sub_self, List.set_cons_zero]
 simp
theorem ZHD {A : SB} {x : Nat} (hx : A.length = x) (p : ByteArray × ST) (B : SB) : ((A ++ p :: B).map toB)[x]? = some (toB p) := by
 subst hx; simp
theorem ZuR (v : ByteArray) (u : ST) (hu : Zgx [(v, u)]) (s : Zr) : ∀ (B A : SB) (x : Nat), A.length = x → s.flist.length = x + B.length → Zgx B → x + B.length ≤ 1000000000 →
  (B.any (ZmS v u) = true → ∃ s', Z5 v u.ty s x ((A ++ B).map toB) = some (3, s')) ∧
  (B.any (ZmS v u) = false → Z5 v u.ty s x ((A ++ B).map toB) = some (0, ⟨(A ++ B.map (bg v u) ++ [(v, u)]).map toB, Zhl s.fat v (((A ++ B).length : Nat) : Int)⟩))
 | [], A, x, hx, hs, _, hl => by
  refine ⟨fun h => (by cases h), fun _ => ?_⟩
  simp only [List.length_nil, Nat.add_zero] at hs hl
  rw [Z5, hs, decide_eq_false (by omega), ifF, Zc0]
  ·simp [toB]
  ·simp; omega
 | p :: B, A, x, hx, hs, hB, hl => by
  rw [List.length_cons] at hs hl
  have hp := hB p (by simp)
  have ih := ZuR v u hu s B (A ++ [bg v u p]) (x + 1) (by simp [hx]) (by omega) (fun q hq => hB q (by simp [hq])) (by omega)
  have e : Z5 v u.ty s x ((A ++ p :: B).map toB) = if ZmS v u p = true then some (3, ⟨(A ++ p :: B).map toB, s.fat⟩) else Z5 v u.ty s (x + 1) (((A ++ [bg v u p]) ++ B).map toB) := by
   rw [Z5, hs, decide_eq_true (by omega), ifT, ZHD hx, Zm]
   show (ZdS ([(v, u)].map toB) p.2.ty >>= _) = _
   rw [ZDY [(v, u)] hu p.2 hp.1, Zm, Zop, Zm]
   show (if ZmS v u p = true then _ else _) = _
   cases hb : ZmS v u p with
   | true => rfl
   | false =>
    rw [ifF, ifF]
    have hr : ZjF [(v, u)] p.2 = (p.2.sub [(v, u)]).ty := by unfold ZjF; rw [show (p.2.sub [(v, u)]).big = false from hb, ifF]
    rw [hr]
    show Z5 v u.ty s (x + 1) (((A ++ p :: B).map toB).set x (toB (bg v u p))) = _
    rw [ZGw hx]
  rw [e, List.any_cons]
  cases hb : ZmS v u p with
  | true => exact ⟨fun _ => ⟨_, rfl⟩, fun h => by cases h⟩
  | false =>
   rw [ifF, Bool.false_or]
   refine ⟨ih.1, fun h => ?_⟩
   rw [ih.2 h]
   simp [bg]
theorem Zur (s : List Ze) (v : ByteArray) (u : ST) (hu : Zgx [(v, u)]) : ∀ (B A : SB) (x : Nat), Zgx B → A.length + B.length ≤ 1000000000 →
  Zdm s v u.ty (A.map toB) x (B.map toB) = some (if B.any (ZmS v u) = true then ([], 3) else ((A ++ B.map (bg v u) ++ [(v, u)]).map toB, 0))
 | [], A, x, _, hl => by
  rw [List.map_nil, Zdm, Zc0]
  ·simp [toB]
  ·simp at hl ⊢; omega
 | p :: B, A, x, hB, hl => by
  rw [List.length_cons] at hl
  have hp := hB p (by simp)
  have ih := Zur s v u hu B (A ++ [bg v u p]) (x + 1) (fun q hq => hB q (by simp [hq])) (by simp; omega)
  rw [List.map_cons, Zdm]
  show (Z7 ([(v, u)].map toB) p.2.ty >>= _) = _
  rw [ZAx [(v, u)] hu p.2 hp.1, Zm, Zop, List.any_cons]
  show (if ZmS v u p = true then _ else _) = _
  cases hb : ZmS v u p with
  | true => rfl
  | false =>
   have hr : ZjF [(v, u)] p.2 = (p.2.sub [(v, u)]).ty := by unfold ZjF; rw [show (p.2.sub [(v, u)]).big = false from hb, ifF]
   rw [ifF, hr, Zc0 _ (by simp; omega), Bool.false_or]
   have e : A.map toB ++ [Ze.mk (toB p).fName (p.2.sub [(v, u)]).ty] = (A ++ [bg v u p]).map toB := by simp [toB, bg]
   rw [e, ih]
   simp
def ZfF (L : SB) (v : ByteArray) (t : ST) : Int × SB :=
 if (t.sub L).occ v = true then (23, [])
 else if (t.sub L).big = true then (3, [])
 else if L.any (ZmS v (t.sub L)) = true then (3, [])
 else (0, L.map (bg v (t.sub L)) ++ [(v, t.sub L)])
theorem ZA8 {x : ByteArray} {L : SB} (h : lk x L = none) : fi x L = none := by
 rcases ZsH x L with ⟨h1, _⟩ | ⟨i, p, _, _, _, h4⟩
 ·exact h1
 ·rw [h] at h4; cases h4
theorem ZCw (L : SB) (hL : Zgx L) (v : ByteArray) (hv : Zhk v = true ∧ v.size ≤ 1048576) (t : ST) (ht : t.good) (hl : L.length ≤ 1000000000) :
  Zb3 (L.map toB) v t.ty = some ((ZfF L v t).2.map toB, (ZfF L v t).1) := by
 rw [Zb3, ZFq, Zm]
 unfold ZfF
 cases ho : (t.sub L).occ v with
 | true => rfl
 | false =>
  rw [ifF, ifF, ZAx L hL t ht, Zm, Zop]
  cases hb : (t.sub L).big with
  | true => rfl
  | false =>
   have hr : ZjF L t = (t.sub L).ty := by unfold ZjF; rw [hb, ifF]
   have hu : Zgx [(v, t.sub L)] := fun p hp => by rw [List.mem_singleton] at hp; subst hp; exact ⟨⟨ZnW hL t ht.1, hb⟩, hv⟩
   rw [ifF, ifF, hr]
   have := Zur (L.map toB) v (t.sub L) hu L [] 0 hL (by simpa using hl)
   rw [List.map_nil] at this
   rw [this, List.nil_append]
   cases L.any (ZmS v (t.sub L)) <;> rfl
theorem Zvw (L : SB) (hL : Zgx L) (v : ByteArray) (hv : Zhk v = true ∧ v.size ≤ 1048576) (hf : lk v L = none) (t : ST) (ht : t.good) (hl : L.length ≤ 1000000000) :
  ∃ s', Zaq ⟨L.map toB, atL 0 L⟩ v t.ty = some ((ZfF L v t).1, s') ∧ ((ZfF L v t).1 = 0 → s' = ⟨(ZfF L v t).2.map toB, atL 0 (ZfF L v t).2⟩) := by
 rw [Zaq, ZFT L hL v t ht hf, Zm]
 unfold ZfF
 cases ho : (t.sub L).occ v with
 | true => exact ⟨_, rfl, fun h => by cases h⟩
 | false =>
  rw [ifF, ifF]
  show ∃ s', (Zei (L.map toB) t.ty >>= _) = _ ∧ _
  rw [ZF8 L hL t ht, Zm, Zop]
  cases hb : (t.sub L).big with
  | true => exact ⟨_, rfl, fun h => by cases h⟩
  | false =>
   have hr : ZjF L t = (t.sub L).ty := by unfold ZjF; rw [hb, ifF]
   have hu : Zgx [(v, t.sub L)] := fun p hp => by rw [List.mem_singleton] at hp; subst hp; exact ⟨⟨ZnW hL t ht.1, hb⟩, hv⟩
   rw [ifF, ifF, hr]
   obtain ⟨h1, h2⟩ := ZuR v (t.sub L) hu ⟨L.map toB, atL 0 L⟩ L [] 0 rfl (by simp) hL (by simpa using hl)
   rw [List.nil_append] at h1 h2
   cases hg : L.any (ZmS v (t.sub L)) with
   | true =>
    obtain ⟨s', h1⟩ := h1 hg
    exact ⟨s', h1, fun h => by cases h⟩
   | false =>
    refine ⟨_, h2 hg, fun _ => ?_⟩
    rw [List.nil_append, ZwN v (t.sub L) L 0 _ (ZA8 hf) (by omega)]
    show _ = Zr.mk ((L.map (bg v (t.sub L)) ++ [(v, t.sub L)]).map toB) (atL 0 (L.map (bg v (t.sub L)) ++ [(v, t.sub L)]))
    congr 1
    have : ∀ (L M : SB) (g : ByteArray × ST → ST) (k : Nat), atL k (L.map (fun p => (p.1, g p)) ++ M) = atL k (L ++ M) := by
     intro L M g
     induction L with
     | nil => intro k; rfl
     | cons p L ih => intro k; rw [List.map_cons, List.cons_append, List.cons_append, atL, atL, ih]
    exact (this L _ (fun p => p.2.sub [(v, t.sub L)]) 0).symm

def Ztz (L : SB) : Prop := ∀ p ∈ L, ∀ y, p.2.occ y = true → lk y L = none
theorem Zxl {L : SB} (h : Ztz L) {x : ByteArray} {u : ST} (hx : lk x L = some u) {y : ByteArray} (hy : u.occ y = true) : lk y L = none := h _ (Zno hx) y hy
theorem ZC9 (L : SB) (t : ST) : (∀ y, t.occ y = true → lk y L = none) → t.sub L = t := by
 induction t with
 | v s => intro h; rw [ST.sub, h s (by simp [ST.occ])]; rfl
 | k s => intro h; rfl
 | a f x ihf ihx => intro h; rw [ST.sub, ihf fun y hy => h y (by simp [ST.occ, hy]), ihx fun y hy => h y (by simp [ST.occ, hy])]
theorem Zt1 {L : SB} (hI : Ztz L) (t : ST) {y : ByteArray} (h : (t.sub L).occ y = true) : lk y L = none := by
 obtain ⟨x, _, h | ⟨u, h1, h2⟩⟩ := (Zp2 L y t).1 h
 ·exact h.2 ▸ h.1
 ·exact Zxl hI h1 h2
theorem Zum {L : SB} (hI : Ztz L) (t : ST) : (t.sub L).sub L = t.sub L := ZC9 L _ fun y hy => Zt1 hI t hy
theorem Zxr {L : SB} (hI : Ztz L) (t : ST) : (t.res L).sub L = t.sub L := by
 cases t with
 | v s =>
  show ((lk s L).getD (.v s)).sub L = (lk s L).getD (.v s)
  have := Zum hI (.v s)
  exact this
 | k s => rfl
 | a f x => rfl
theorem Zp6 {L : SB} (hI : Ztz L) {t : ST} {x : ByteArray} (h : t.res L = .v x) : lk x L = none := by
 cases t with
 | v s =>
  rw [ST.res] at h
  cases hs : lk s L with
  | none => rw [hs] at h; injection h with h; exact h ▸ hs
  | some u => rw [hs] at h; simp only [Option.getD_some] at h; subst h; exact Zxl hI hs (by simp [ST.occ])
 | k s => cases h
 | a f x => cases h
theorem Zuh {L : SB} (hL : Zgx L) {t : ST} (ht : t.good) : (t.res L).good := by
 cases t with
 | v s =>
  rw [ST.res]
  cases hs : lk s L with
  | none => exact ht
  | some u => exact Zmm hL hs
 | k s => exact ht
 | a f x => exact ht
theorem Zwe {L : SB} {t : ST} {y : ByteArray} (h : (t.res L).occ y = true) : t.occ y = true ∨ ∃ p ∈ L, p.2.occ y = true := by
 cases t with
 | v s =>
  rw [ST.res] at h
  cases hs : lk s L with
  | none => rw [hs] at h; exact .inl h
  | some u => rw [hs] at h; exact .inr ⟨_, Zno hs, h⟩
 | k s => exact .inl h
 | a f x => exact .inl h
theorem Zwy {L : SB} (hL : Zgx L) (t : ST) : (t.sub L).dep ≤ t.dep + 99 := by
 induction t with
 | v s =>
  rw [ST.sub]
  cases hs : lk s L with
  | none => simp [ST.dep]
  | some u => have := ZcN.1 (Zmm hL hs).2; simp only [Option.getD_some, ST.dep]; omega
 | k s => simp [ST.sub, ST.dep]
 | a f x ihf ihx => rw [ST.sub, ST.dep, ST.dep]; omega
def ZlD (L : SB) (v : ByteArray) (u : ST) : SB := L.map (bg v u) ++ [(v, u)]
theorem Zzs (x v : ByteArray) (u : ST) : ∀ L : SB, lk x (L.map (bg v u)) = (lk x L).map fun t => t.sub [(v, u)]
 | [] => rfl
 | p :: L => by
  rw [List.map_cons, lk, lk, Zzs x v u L]
  show (if p.1 = x then _ else _) = _
  by_cases h : p.1 = x
  ·rw [if_pos h, if_pos h]; rfl
  ·rw [if_neg h, if_neg h]
theorem ZqQ (x v : ByteArray) (u : ST) : lk x [(v, u)] = if v = x then some u else none := by rw [lk]; rfl
theorem ZoY (x v : ByteArray) (u : ST) (L : SB) : lk x (ZlD L v u) = match lk x L with | some t => some (t.sub [(v, u)]) | none => if v = x then some u else none := by
 unfold ZlD
 rw [Zvt, Zzs]
 cases lk x L with
 | some t => rfl
 | none => exact ZqQ x v u
theorem Zxc {L : SB} {v : ByteArray} {u : ST} (t : ST) : t.sub (ZlD L v u) = (t.sub L).sub [(v, u)] := by
 induction t with
 | v s =>
  rw [ST.sub, ST.sub, ZoY]
  cases hs : lk s L with
  | some w => rfl
  | none =>
   show _ = (ST.v s).sub [(v, u)]
   rw [ST.sub, ZqQ]
 | k s => rfl
 | a f x ihf ihx => rw [ST.sub, ihf, ihx]; rfl
theorem Zxe {v y : ByteArray} {u t : ST} (h : (t.sub [(v, u)]).occ y = true) : (t.occ y = true ∧ y ≠ v) ∨ (u.occ y = true ∧ t.occ v = true) := by
 obtain ⟨x, h1, ⟨h2, h3⟩ | ⟨w, h2, h3⟩⟩ := (Zp2 _ y t).1 h
 ·rw [ZqQ] at h2
  subst h3
  exact .inl ⟨h1, fun e => by rw [if_pos e.symm] at h2; cases h2⟩
 ·rw [ZqQ] at h2
  by_cases e : v = x
  ·rw [if_pos e] at h2; injection h2 with h2; subst e h2; exact .inr ⟨h3, h1⟩
  ·rw [if_neg e] at h2; cases h2
theorem Zzt {L : SB} (hI : Ztz L) {v : ByteArray} {t : ST} (hv : lk v L = none) (ho : (t.sub L).occ v = false) : Ztz (ZlD L v (t.sub L)) := by
 have key : ∀ y, lk y L = none → y ≠ v → lk y (ZlD L v (t.sub L)) = none := fun y h1 h2 => by rw [ZoY, h1]; exact if_neg fun e => h2 e.symm
 have ku : ∀ y, (t.sub L).occ y = true → lk y (ZlD L v (t.sub L)) = none := fun y hy => key y (Zt1 hI t hy) fun e => by subst e; rw [ho] at hy; cases hy
 intro p hp y hy
 unfold ZlD at hp
 rcases List.mem_append.1 hp with hp | hp
 ·obtain ⟨q, hq, rfl⟩ := List.mem_map.1 hp
  rcases Zxe hy with ⟨h1, h2⟩ | ⟨h1, _⟩
  ·exact key y (hI q hq y h1) h2
  ·exact ku y h1
 ·rw [List.mem_singleton] at hp; subst hp; exact ku y hy
theorem Zwz {v : ByteArray} {u : ST} {M : SB} (h : (ST.v v).sub M = u.sub M) (w : ST) : (w.sub [(v, u)]).sub M = w.sub M := by
 induction w with
 | v s =>
  rw [ST.sub, ZqQ]
  by_cases e : v = s
  ·rw [if_pos e, ← e]; exact h.symm
  ·rw [if_neg e]; rfl
 | k s => rfl
 | a f x ihf ihx => rw [ST.sub, ST.sub, ihf, ihx]; rfl
def unb (V : List ByteArray) (L : SB) : Nat := (V.filter fun x => (lk x L).isNone).length
theorem ZsD {α : Type} (p q : α → Bool) (hpq : ∀ x, q x = true → p x = true) : ∀ (V : List α) (v : α), v ∈ V → p v = true → q v = false → (V.filter q).length < (V.filter p).length
 | a :: V, v, hv, hp, hq => by
  have le : ∀ V : List α, (V.filter q).length ≤ (V.filter p).length := fun V => by
   induction V with
   | nil => exact Nat.le_refl _
   | cons a V ih =>
    rw [List.filter_cons, List.filter_cons]
    cases h1 : q a with
    | true => rw [hpq a h1]; simpa using ih
    | false => cases p a <;> simp <;> omega
  rw [List.filter_cons, List.filter_cons]
  rcases List.mem_cons.1 hv with rfl | hv
  ·rw [hp, hq]; have := le V; simp; omega
  ·have ih := ZsD p q hpq V v hv hp hq
   cases h1 : q a with
   | true => rw [hpq a h1]; simpa using ih
   | false => cases p a <;> simp <;> omega
theorem ZBq {V : List ByteArray} {L : SB} {v : ByteArray} {u : ST} (hv : v ∈ V) (hf : lk v L = none) : unb V (ZlD L v u) < unb V L := by
 refine ZsD _ _ (fun x hx => ?_) V v hv (by rw [hf]; rfl) (by rw [ZoY, hf]; simp)
 rw [ZoY] at hx
 cases h : lk x L with
 | none => rfl
 | some w => rw [h] at hx; cases hx
theorem Zzm {L : SB} (hL : Zgx L) {v : ByteArray} {t : ST} (hv : Zhk v = true ∧ v.size ≤ 1048576) (ht : t.good) (hb : (t.sub L).big = false) (hg : L.any (ZmS v (t.sub L)) = false) : Zgx (ZlD L v (t.sub L)) := by
 have hu : Zgx [(v, t.sub L)] := fun p hp => by rw [List.mem_singleton] at hp; subst hp; exact ⟨⟨ZnW hL t ht.1, hb⟩, hv⟩
 intro p hp
 unfold ZlD at hp
 rcases List.mem_append.1 hp with hp | hp
 ·obtain ⟨q, hq, rfl⟩ := List.mem_map.1 hp
  have hq' := hL q hq
  refine ⟨⟨ZnW hu q.2 hq'.1.1, ?_⟩, hq'.2⟩
  rw [List.any_eq_false] at hg
  have := hg q hq
  show (q.2.sub [(v, t.sub L)]).big = false
  simpa [ZmS] using this
 ·exact hu p hp
def Vin (V : List ByteArray) (L : SB) : Prop := ∀ p ∈ L, ∀ y, p.2.occ y = true → y ∈ V
theorem ZwT {V : List ByteArray} {L : SB} (h : Vin V L) {t : ST} (ht : ∀ y, t.occ y = true → y ∈ V) {y : ByteArray} (hy : (t.sub L).occ y = true) : y ∈ V := by
 obtain ⟨x, h1, ⟨_, h3⟩ | ⟨w, h2, h3⟩⟩ := (Zp2 _ y t).1 hy
 ·exact h3 ▸ ht x h1
 ·exact h _ (Zno h2) y h3
theorem ZBg {V : List ByteArray} {L : SB} (h : Vin V L) {v : ByteArray} {t : ST} (ht : ∀ y, t.occ y = true → y ∈ V) : Vin V (ZlD L v (t.sub L)) := by
 intro p hp y hy
 unfold ZlD at hp
 rcases List.mem_append.1 hp with hp | hp
 ·obtain ⟨q, hq, rfl⟩ := List.mem_map.1 hp
  rcases Zxe hy with ⟨h1, _⟩ | ⟨h1, _⟩
  ·exact h q hq y h1
  ·exact ZwT h ht h1
 ·rw [List.mem_singleton] at hp; subst hp; exact ZwT h ht hy
theorem ZzY {L : SB} {v : ByteArray} {t : ST} (h : (ZfF L v t).1 = 0) : (t.sub L).occ v = false ∧ (t.sub L).big = false ∧ L.any (ZmS v (t.sub L)) = false ∧ (ZfF L v t).2 = ZlD L v (t.sub L) := by
 unfold ZfF at h ⊢
 cases h1 : (t.sub L).occ v with
 | true => rw [h1] at h; cases h
 | false =>
  cases h2 : (t.sub L).big with
  | true => rw [h1, h2] at h; cases h
  | false =>
   cases h3 : L.any (ZmS v (t.sub L)) with
   | true => rw [h1, h2, h3] at h; cases h
   | false => exact ⟨rfl, rfl, rfl, rfl⟩

abbrev SP := List (ST × ST)
def toP (p : ST × ST) : Zn := Zn.mk p.1.ty p.2.ty
def stk (T : SP) : List Zn := T.reverse.map toP
theorem Zj3 (p : ST × ST) (T : SP) : stk (p :: T) = stk T ++ [toP p] := by simp [stk]
theorem ZpV (T : SP) : (stk T).length = T.length := by simp [stk]
theorem ZyB {α : Type} (S : List α) (q : α) (h : S.length ≤ 1000000000) : ixI (S ++ [q]) (IntKind.i64.wrap ((((S ++ [q]).length : Nat) : Int) - 1)) = some q := by
 rw [List.length_append, List.length_cons, List.length_nil, w64 (by omega) (by omega), show ((S.length + (0 + 1) : Nat) : Int) - 1 = ((S.length : Nat) : Int) from by omega, Zk4]
 simp
theorem ZyV {α : Type} (S : List α) (q : α) (h : S.length ≤ 1000000000) : slL (S ++ [q]) ((0 : Nat) : Int) (IntKind.i64.wrap ((((S ++ [q]).length : Nat) : Int) - 1)) = some S := by
 rw [List.length_append, List.length_cons, List.length_nil, w64 (by omega) (by omega), show ((S.length + (0 + 1) : Nat) : Int) - 1 = ((S.length : Nat) : Int) from by omega]
 unfold slL
 rw [if_pos ⟨by omega, by omega, by simp; omega⟩]
 simp
def Zih (L : SB) (S : List Zn) (A B : Za) : Option (Int × Zr × List Zn) :=
 if (((A.fOp == 1) && (B.fOp == 1)) && (A.fName.toList == B.fName.toList)) = true then Zp 0 (atL 0 L) (L.map toB) S
 else if (A.fOp == 1) = true then Zaq ⟨L.map toB, atL 0 L⟩ A.fName B >>= fun r => Zp r.1 r.2.fat r.2.flist S
 else if (B.fOp == 1) = true then Zaq ⟨L.map toB, atL 0 L⟩ B.fName A >>= fun r => Zp r.1 r.2.fat r.2.flist S
 else if (((A.fOp == 2) && (B.fOp == 2)) && (A.fName.toList == B.fName.toList)) = true then Zp 0 (atL 0 L) (L.map toB) S
 else if ((A.fOp == 3) && (B.fOp == 3)) = true then
  (ixI A.fKids 1) >>= fun x1 => (ixI B.fKids 1) >>= fun y1 => (ixI A.fKids 0) >>= fun x0 => (ixI B.fKids 0) >>= fun y0 =>
  ZK ((S.length + ([(Zn.mk x1 y1), (Zn.mk x0 y0)]).length) * 144 ≤ 140737488355328) >>= fun _ =>
  Zp 0 (atL 0 L) (L.map toB) (S ++ ([(Zn.mk x1 y1), (Zn.mk x0 y0)]))
 else Zp 22 (atL 0 L) (L.map toB) S
theorem ZtC (L : SB) (T : SP) (a b : ST) (h : T.length ≤ 1000000000) : Zz (atL 0 L) (L.map toB) (stk ((a, b) :: T)) = Zih L (stk T) (a.res L).ty (b.res L).ty := by
 have hs : (stk T).length ≤ 1000000000 := by rw [ZpV]; exact h
 rw [Zj3, Zz, ZyB _ _ hs, ZyV _ _ hs, decide_eq_true (by simp <;> omega), ifT, Zm]
 show (ZaC ⟨L.map toB, atL 0 L⟩ a.ty >>= _) = _
 rw [ZBD, Zm, Zm]
 show (ZaC ⟨L.map toB, atL 0 L⟩ b.ty >>= _) = _
 rw [ZBD]; rfl
def ZjT (L : SB) (S : List Zn) (A B : Za) : Option (List Ze × Int) :=
 if (((A.fOp == 1) && (B.fOp == 1)) && (A.fName.toList == B.fName.toList)) = true then Zv (L.map toB) 0 S
 else if (A.fOp == 1) = true then Zb3 (L.map toB) A.fName B >>= fun r => Zv r.1 r.2 S
 else if (B.fOp == 1) = true then Zb3 (L.map toB) B.fName A >>= fun r => Zv r.1 r.2 S
 else if (((A.fOp == 2) && (B.fOp == 2)) && (A.fName.toList == B.fName.toList)) = true then Zv (L.map toB) 0 S
 else if ((A.fOp == 3) && (B.fOp == 3)) = true then
  (ixI A.fKids 1) >>= fun x1 => (ixI B.fKids 1) >>= fun y1 => (ixI A.fKids 0) >>= fun x0 => (ixI B.fKids 0) >>= fun y0 =>
  ZK ((S.length + ([(Zn.mk x1 y1), (Zn.mk x0 y0)]).length) * 144 ≤ 140737488355328) >>= fun _ =>
  Zv (L.map toB) 0 (S ++ ([(Zn.mk x1 y1), (Zn.mk x0 y0)]))
 else Zv (L.map toB) 22 S
theorem ZB7 (L : SB) (T : SP) (a b : ST) (h : T.length ≤ 1000000000) : Zv (L.map toB) 0 (stk ((a, b) :: T)) = ZjT L (stk T) (a.res L).ty (b.res L).ty := by
 have hs : (stk T).length ≤ 1000000000 := by rw [ZpV]; exact h
 rw [Zj3, Zv, ZyB _ _ hs, ZyV _ _ hs, decide_eq_true (by simp <;> omega)]
 show ((some (toP (a, b))) >>= _) = _
 rw [Zm]
 show (ZcI (L.map toB) a.ty >>= _) = _
 rw [ZBJ, Zm, Zm]
 show (ZcI (L.map toB) b.ty >>= _) = _
 rw [ZBJ]; rfl
theorem ZFC (s : List Ze) (e : Int) (he : e ≠ 0) (S : List Zn) : Zv s e S = some ([], e) := by
 have h1 : (e == 0) = false := by rw [beq_eq_false_iff_ne]; exact he
 have h2 : (e != 0) = true := by rw [bne, h1]; rfl
 rw [Zv, h1, Bool.and_false, ifF, h2, ifT]
theorem ZAD (e : Int) (he : e ≠ 0) (at_ : List (ByteArray × Int)) (l : List Ze) (S : List Zn) : Zp e at_ l S = some (e, ⟨[], []⟩, S) := by
 have h1 : (e == 0) = false := by rw [beq_eq_false_iff_ne]; exact he
 have h2 : (e != 0) = true := by rw [bne, h1]; rfl
 rw [Zp, h2, ifT]
theorem ZAW (at_ : List (ByteArray × Int)) (l : List Ze) (S : List Zn) : Zp 0 at_ l S = Zz at_ l S := by
 rw [Zp]; rfl
def HOk (L : SB) (h0 : Nat) : SP → Prop
 | [] => True
 | p :: T => (T.length + 1 ≤ h0 ∨ (p.1.sub L).dep + (T.length + 1) ≤ 200 + h0) ∧ HOk L h0 T
theorem ZBu (t : ST) : 1 ≤ t.dep := by cases t <;> simp [ST.dep]
theorem ZwR {L : SB} {h0 : Nat} : ∀ {T : SP}, HOk L h0 T → T.length ≤ h0 + 200
 | [], _ => Nat.zero_le _
 | p :: T, h => by have := ZBu (p.1.sub L); have h := h.1; rw [List.length_cons]; omega
theorem Zts {L : SB} {h0 : Nat} : ∀ {T : SP}, T.length ≤ h0 → HOk L h0 T
 | [], _ => trivial
 | p :: T, h => by rw [List.length_cons] at h; exact ⟨.inl h, Zts (by omega)⟩
structure UC (R : ST → ST → Prop) : Prop where
 refl : ∀ s, R s s
 symm : ∀ s t, R s t → R t s
 trans : ∀ s t u, R s t → R t u → R s u
 app : ∀ f g x y, R f g → R x y → R (.a f x) (.a g y)
 inv : ∀ f g x y, R (.a f x) (.a g y) → R f g ∧ R x y
 kk : ∀ s t, R (.k s) (.k t) → s = t
 ka : ∀ s f x, ¬ R (.k s) (.a f x)
 occ : ∀ v t, t ≠ .v v → t.occ v = true → ¬ R (.v v) t
theorem UC.sub {R : ST → ST → Prop} (h : UC R) {L : SB} (hL : ∀ p ∈ L, R (.v p.1) p.2) (t : ST) : R t (t.sub L) := by
 induction t with
 | v x =>
  rw [ST.sub]
  cases hx : lk x L with
  | none => exact h.refl _
  | some u => exact hL (x, u) (Zno hx)
 | k s => exact h.refl _
 | a f x ihf ihx => exact h.app _ _ _ _ ihf ihx
theorem UC.res {R : ST → ST → Prop} (h : UC R) {L : SB} (hL : ∀ p ∈ L, R (.v p.1) p.2) (t : ST) : R t (t.res L) := by
 cases t with
 | v x =>
  rw [ST.res]
  cases hx : lk x L with
  | none => exact h.refl _
  | some u => exact hL (x, u) (Zno hx)
 | k s => exact h.refl _
 | a f x => exact h.refl _
structure Ans (V : List ByteArray) (L : SB) (T : SP) (e : Int) (L' : SB) : Prop where
 bad : e ≠ 0 → L' = []
 good : Zgx L'
 idem : Ztz L'
 ext : e = 0 → ∀ t : ST, (t.sub L).sub L' = t.sub L'
 eqs : e = 0 → ∀ p ∈ T, p.1.sub L' = p.2.sub L'
 len : L'.length ≤ 1000000000
 err : e = 0 ∨ e = 3 ∨ e = 22 ∨ e = 23
 gen : ∀ R : ST → ST → Prop, UC R → (∀ p ∈ L, R (.v p.1) p.2) → (∀ p ∈ T, R p.1 p.2) → (e = 0 ∨ e = 3) ∧ ∀ p ∈ L', R (.v p.1) p.2
structure Inv (V : List ByteArray) (L : SB) (T : SP) (h0 : Nat) : Prop where
 good : Zgx L
 idem : Ztz L
 vin : Vin V L
 tgood : ∀ p ∈ T, p.1.good ∧ p.2.good
 tin : ∀ p ∈ T, ∀ y, (p.1.occ y = true ∨ p.2.occ y = true) → y ∈ V
 vok : ∀ y ∈ V, Zhk y = true ∧ y.size ≤ 1048576
 hok : HOk L h0 T
 top : h0 + 200 * unb V L ≤ 500000000
 len : L.length + unb V L ≤ 500000000
def tot (L : SB) : SP → Nat
 | [] => 0
 | p :: T => (p.1.sub L).nod + tot L T
theorem Ans.nil {V : List ByteArray} {L : SB} {T : SP} {e : Int} (he : e = 3 ∨ e = 22 ∨ e = 23) (hg : ∀ R : ST → ST → Prop, UC R → (∀ p ∈ L, R (.v p.1) p.2) → (∀ p ∈ T, R p.1 p.2) → e = 3) : Ans V L T e [] :=
 ⟨fun _ => rfl, fun p hp => absurd hp List.not_mem_nil, fun p hp => absurd hp List.not_mem_nil, fun h => by rcases he with he | he | he <;> (rw [he] at h; cases h), fun h => by rcases he with he | he | he <;> (rw [he] at h; cases h), by simp, .inr he, fun R h1 h2 h3 => ⟨.inr (hg R h1 h2 h3), fun p hp => absurd hp List.not_mem_nil⟩⟩
def Zna (V : List ByteArray) (L : SB) (T : SP) (n : Option (Int × Zr × List Zn)) (r : Option (List Ze × Int)) : Prop :=
 ∃ e L' s' S', n = some (e, s', S') ∧ s'.flist = L'.map toB ∧ r = some (L'.map toB, e) ∧ Ans V L T e L'
theorem Zna.err {V : List ByteArray} {L M : SB} {T : SP} {e : Int} (he : e = 3 ∨ e = 22 ∨ e = 23) {at_ : List (ByteArray × Int)} {l : List Ze} {l2 : List Ze} {S S2 : List Zn} (hg : ∀ R : ST → ST → Prop, UC R → (∀ p ∈ L, R (.v p.1) p.2) → (∀ p ∈ T, R p.1 p.2) → e = 3) : Zna V L T (Zp e at_ l S) (Zv l2 e S2) := by
 have h0 : e ≠ 0 := by rcases he with he | he | he <;> (rw [he]; decide)
 rw [ZAD e h0, ZFC _ e h0]
 exact ⟨e, [], _, _, rfl, rfl, rfl, Ans.nil he hg⟩
theorem Zx0 (L : SB) (v : ByteArray) (t : ST) : (ZfF L v t).1 = 0 ∨ (ZfF L v t).1 = 3 ∨ (ZfF L v t).1 = 22 ∨ (ZfF L v t).1 = 23 := by
 unfold ZfF
 split
 ·simp
 ·split
  ·simp
  ·split <;> simp
theorem Zvr {L : SB} {v : ByteArray} {t : ST} (h : (t.sub L).occ v = false) (h0 : (ZfF L v t).1 ≠ 0) : (ZfF L v t).1 = 3 := by
 unfold ZfF at h0 ⊢
 rw [h] at h0 ⊢
 simp only [Bool.false_eq_true, if_false] at h0 ⊢
 split
 ·rfl
 ·rename_i h1
  rw [if_neg h1] at h0
  split
  ·rfl
  ·rename_i h2; rw [if_neg h2] at h0; exact absurd rfl h0
theorem Zxw {V : List ByteArray} {L : SB} {T : SP} {h0 : Nat} {p : ST × ST} (hI : Inv V L (p :: T) h0) {v : ByteArray} {t : ST} (hv : lk v L = none) (hvV : v ∈ V) (ht : t.good) (htV : ∀ y, t.occ y = true → y ∈ V)
  (hp : (p.1.sub L = .v v ∧ p.2.sub L = t.sub L) ∨ (p.2.sub L = .v v ∧ p.1.sub L = t.sub L)) (hne : t.sub L ≠ .v v)
  (rec_ : ∀ (L1 : SB) (h1 : Nat), unb V L1 < unb V L → Inv V L1 T h1 → Zna V L1 T (Zz (atL 0 L1) (L1.map toB) (stk T)) (Zv (L1.map toB) 0 (stk T))) :
  Zna V L (p :: T) (Zaq ⟨L.map toB, atL 0 L⟩ v t.ty >>= fun r => Zp r.1 r.2.fat r.2.flist (stk T)) (Zb3 (L.map toB) v t.ty >>= fun r => Zv r.1 r.2 (stk T)) := by
 have hlen : L.length ≤ 1000000000 := by have := hI.len; omega
 have hR : ∀ R : ST → ST → Prop, UC R → (∀ p ∈ L, R (.v p.1) p.2) → (∀ q ∈ p :: T, R q.1 q.2) → R (.v v) (t.sub L) := fun R hU hL hT => by
  have hpp := hT p (List.mem_cons_self ..)
  have e1 := hU.sub hL p.1
  have e2 := hU.sub hL p.2
  rcases hp with ⟨p1, p2⟩ | ⟨p1, p2⟩
  ·rw [p1] at e1; rw [p2] at e2; exact hU.trans _ _ _ (hU.symm _ _ e1) (hU.trans _ _ _ hpp e2)
  ·rw [p1] at e2; rw [p2] at e1; exact hU.trans _ _ _ (hU.symm _ _ e2) (hU.trans _ _ _ (hU.symm _ _ hpp) e1)
 obtain ⟨s', h1, h2⟩ := Zvw L hI.good v (hI.vok v hvV) hv t ht hlen
 rw [h1, Zm, ZCw L hI.good v (hI.vok v hvV) t ht hlen, Zm]
 by_cases he : (ZfF L v t).1 = 0
 ·obtain ⟨b1, b2, b3, b4⟩ := ZzY he
  rw [h2 he, b4, he, ZAW]
  have hT := ZwR hI.hok.2
  have hun := ZBq (u := t.sub L) hvV hv
  have hI1 : Inv V (ZlD L v (t.sub L)) T (h0 + 200) :=
   ⟨Zzm hI.good (hI.vok v hvV) ht b2 b3, Zzt hI.idem hv b1, ZBg hI.vin htV, fun q hq => hI.tgood q (List.mem_cons_of_mem _ hq), fun q hq => hI.tin q (List.mem_cons_of_mem _ hq), hI.vok, Zts hT,
    by have := hI.top; omega, by have := hI.len; have e : (ZlD L v (t.sub L)).length = L.length + 1 := by simp [ZlD]
                                 omega⟩
  obtain ⟨e, L', s1, S1, g1, g2, g3, A⟩ := rec_ _ _ hun hI1
  refine ⟨e, L', s1, S1, g1, g2, g3, ⟨A.bad, A.good, A.idem, ?_, ?_, A.len, A.err, fun R hU hL hT => A.gen R hU (fun q hq => ?_) (fun q hq => hT q (List.mem_cons_of_mem _ hq))⟩⟩
  rotate_left 2
  ·have hv1 := hR R hU hL hT
   have h1 : ∀ p ∈ [(v, t.sub L)], R (.v p.1) p.2 := fun p hp => by rw [List.mem_singleton] at hp; subst hp; exact hv1
   unfold ZlD at hq
   rcases List.mem_append.1 hq with hq | hq
   ·obtain ⟨p, hp, rfl⟩ := List.mem_map.1 hq
    exact hU.trans _ _ _ (hL p hp) (hU.sub h1 p.2)
   ·exact h1 q hq
  ·intro h0 w
   have h3 := A.ext h0
   have hx : (ST.v v).sub L' = (t.sub L).sub L' := by
    have := h3 (.v v)
    rw [ST.sub, ZoY, hv] at this
    simp only [if_true, Option.getD_some] at this
    exact this.symm
   rw [← Zwz hx (w.sub L), ← Zxc, h3]
  ·intro h0 q hq
   rcases List.mem_cons.1 hq with rfl | hq
   ·have h3 := A.ext h0
    have hx : (ST.v v).sub L' = (t.sub L).sub L' := by
     have := h3 (.v v)
     rw [ST.sub, ZoY, hv] at this
     simp only [if_true, Option.getD_some] at this
     exact this.symm
    have hw : ∀ w : ST, (w.sub L).sub L' = w.sub L' := fun w => by rw [← Zwz hx (w.sub L), ← Zxc, h3]
    rcases hp with ⟨p1, p2⟩ | ⟨p1, p2⟩
    ·rw [← hw q.1, ← hw q.2, p1, p2, hx]
    ·rw [← hw q.1, ← hw q.2, p1, p2, hx]
   ·exact A.eqs h0 q hq
 ·have h3 := (Zx0 L v t).resolve_left he
  refine Zna.err (M := L) h3 fun R hU hL hT => ?_
  cases ho : (t.sub L).occ v with
  | true => exact absurd (hR R hU hL hT) (hU.occ v _ hne ho)
  | false => exact Zvr ho he
theorem Zna.back {V : List ByteArray} {L : SB} {T T' : SP} {n : Option (Int × Zr × List Zn)} {r : Option (List Ze × Int)} (h : Zna V L T' n r) (hq : ∀ L' : SB, (∀ t : ST, (t.sub L).sub L' = t.sub L') → (∀ p ∈ T', p.1.sub L' = p.2.sub L') → ∀ p ∈ T, p.1.sub L' = p.2.sub L') (hg : ∀ R : ST → ST → Prop, UC R → (∀ p ∈ L, R (.v p.1) p.2) → (∀ p ∈ T, R p.1 p.2) → ∀ p ∈ T', R p.1 p.2) : Zna V L T n r := by
 obtain ⟨e, L', s', S', h1, h2, h3, A⟩ := h
 exact ⟨e, L', s', S', h1, h2, h3, ⟨A.bad, A.good, A.idem, A.ext, fun h0 => hq L' (A.ext h0) (A.eqs h0), A.len, A.err, fun R hU hL hT => A.gen R hU hL (hg R hU hL hT)⟩⟩
theorem Zv9 {p : Prop} [Decidable p] {α : Type} (x y : α) : (if decide p = true then x else y) = if p then x else y := by by_cases h : p <;> simp [h]
theorem Zve (L : SB) (S : List Zn) (x : ByteArray) : Zih L S (ST.v x).ty (ST.v x).ty = Zp 0 (atL 0 L) (L.map toB) S := by
 unfold Zih
 show (if (x.toList == x.toList) = true then _ else _) = _
 rw [ZkU, decide_eq_true rfl, ifT]
theorem Zqn (L : SB) (S : List Zn) (x : ByteArray) (t : ST) (h : ∀ y, t = .v y → x ≠ y) : Zih L S (ST.v x).ty t.ty = (Zaq ⟨L.map toB, atL 0 L⟩ x t.ty >>= fun r => Zp r.1 r.2.fat r.2.flist S) := by
 unfold Zih
 cases t with
 | v y =>
  show (if (x.toList == y.toList) = true then _ else _) = _
  rw [ZkU, decide_eq_false (h y rfl), ifF]; rfl
 | k s => rfl
 | a f z => rfl
theorem Zuk (L : SB) (S : List Zn) (x : ByteArray) (t : ST) (h : t.isv = false) : Zih L S t.ty (ST.v x).ty = (Zaq ⟨L.map toB, atL 0 L⟩ x t.ty >>= fun r => Zp r.1 r.2.fat r.2.flist S) := by
 unfold Zih
 cases t with
 | v y => cases h
 | k s => rfl
 | a f z => rfl
theorem ZuE (L : SB) (S : List Zn) (x y : ByteArray) : Zih L S (ST.k x).ty (ST.k y).ty = if x = y then Zp 0 (atL 0 L) (L.map toB) S else Zp 22 (atL 0 L) (L.map toB) S := by
 unfold Zih
 show (if (x.toList == y.toList) = true then _ else _) = _
 rw [ZkU, Zv9]; rfl
theorem Zzr (L : SB) (S : List Zn) (x : ByteArray) (f z : ST) : Zih L S (ST.k x).ty (ST.a f z).ty = Zp 22 (atL 0 L) (L.map toB) S := rfl
theorem Zyq (L : SB) (S : List Zn) (x : ByteArray) (f z : ST) : Zih L S (ST.a f z).ty (ST.k x).ty = Zp 22 (atL 0 L) (L.map toB) S := rfl
theorem ZvM (L : SB) (S : List Zn) (x : ByteArray) : ZjT L S (ST.v x).ty (ST.v x).ty = Zv (L.map toB) 0 S := by
 unfold ZjT
 show (if (x.toList == x.toList) = true then _ else _) = _
 rw [ZkU, decide_eq_true rfl, ifT]
theorem ZyE (L : SB) (S : List Zn) (x : ByteArray) (t : ST) (h : ∀ y, t = .v y → x ≠ y) : ZjT L S (ST.v x).ty t.ty = (Zb3 (L.map toB) x t.ty >>= fun r => Zv r.1 r.2 S) := by
 unfold ZjT
 cases t with
 | v y =>
  show (if (x.toList == y.toList) = true then _ else _) = _
  rw [ZkU, decide_eq_false (h y rfl), ifF]; rfl
 | k s => rfl
 | a f z => rfl
theorem ZuJ (L : SB) (S : List Zn) (x : ByteArray) (t : ST) (h : t.isv = false) : ZjT L S t.ty (ST.v x).ty = (Zb3 (L.map toB) x t.ty >>= fun r => Zv r.1 r.2 S) := by
 unfold ZjT
 cases t with
 | v y => cases h
 | k s => rfl
 | a f z => rfl
theorem ZAq (L : SB) (S : List Zn) (x y : ByteArray) : ZjT L S (ST.k x).ty (ST.k y).ty = if x = y then Zv (L.map toB) 0 S else Zv (L.map toB) 22 S := by
 unfold ZjT
 show (if (x.toList == y.toList) = true then _ else _) = _
 rw [ZkU, Zv9]; rfl
theorem Zz3 (L : SB) (S : List Zn) (x : ByteArray) (f z : ST) : ZjT L S (ST.k x).ty (ST.a f z).ty = Zv (L.map toB) 22 S := rfl
theorem ZAg (L : SB) (S : List Zn) (x : ByteArray) (f z : ST) : ZjT L S (ST.a f z).ty (ST.k x).ty = Zv (L.map toB) 22 S := rfl
theorem ZAa (L : SB) (T : SP) (f z g w : ST) (h : T.length ≤ 600000000) : Zih L (stk T) (ST.a f z).ty (ST.a g w).ty = Zp 0 (atL 0 L) (L.map toB) (stk ((f, g) :: (z, w) :: T)) := by
 unfold Zih
 show (ZK _ >>= fun _ => Zp 0 (atL 0 L) (L.map toB) (stk T ++ [toP (z, w), toP (f, g)])) = _
 rw [Zc0 _ (by rw [ZpV]; simp only [List.length_cons, List.length_nil]; omega), Zj3, Zj3, List.append_assoc]; rfl
theorem ZyH (L : SB) (T : SP) (f z g w : ST) (h : T.length ≤ 600000000) : ZjT L (stk T) (ST.a f z).ty (ST.a g w).ty = Zv (L.map toB) 0 (stk ((f, g) :: (z, w) :: T)) := by
 unfold ZjT
 show (ZK _ >>= fun _ => Zv (L.map toB) 0 (stk T ++ [toP (z, w), toP (f, g)])) = _
 rw [Zc0 _ (by rw [ZpV]; simp only [List.length_cons, List.length_nil]; omega), Zj3, Zj3, List.append_assoc]; rfl
theorem Zr0 {f x : ST} (h : (ST.a f x).good) : f.good ∧ x.good := by
 have h1 := h.1
 have h2 := ZcN.1 h.2
 rw [ST.nms, Bool.and_eq_true] at h1
 rw [ST.nod, ST.dep] at h2
 exact ⟨⟨h1.1, ZcN.2 (by omega)⟩, ⟨h1.2, ZcN.2 (by omega)⟩⟩
theorem ZvU (V : List ByteArray) : ∀ (m : Nat) (n : Nat) (L : SB) (T : SP) (h0 : Nat), unb V L = m → tot L T = n → Inv V L T h0 →
  Zna V L T (Zz (atL 0 L) (L.map toB) (stk T)) (Zv (L.map toB) 0 (stk T)) := by
 intro m
 induction m using Nat.strongRecOn with
 | _ m ihm =>
 intro n
 induction n using Nat.strongRecOn with
 | _ n ihn =>
 intro L T h0 hm hn hI
 have rec_ : ∀ (T : SP) (L1 : SB) (h1 : Nat), unb V L1 < unb V L → Inv V L1 T h1 → Zna V L1 T (Zz (atL 0 L1) (L1.map toB) (stk T)) (Zv (L1.map toB) 0 (stk T)) :=
  fun T L1 h1 hu hi => ihm _ (hm ▸ hu) _ L1 T h1 rfl rfl hi
 match T, hn, hI with
 | [], hn, hI =>
  refine ⟨0, L, ⟨L.map toB, atL 0 L⟩, [], ?_, rfl, ?_, ⟨fun h => absurd rfl h, hI.good, hI.idem, fun _ t => Zum hI.idem t, fun _ p hp => absurd hp List.not_mem_nil, by have := hI.len; omega, .inl rfl, fun R hU hL hT => ⟨.inl rfl, hL⟩⟩⟩
  ·show Zz _ _ [] = _; rw [Zz]; rfl
  ·show Zv _ 0 [] = _; rw [Zv]; rfl
 | (a, b) :: T, hn, hI =>
  have hT : T.length ≤ h0 + 200 := ZwR hI.hok.2
  have hT2 : T.length ≤ 1000000000 := by have := hI.top; omega
  rw [ZtC L T a b hT2, ZB7 L T a b hT2]
  have hab := hI.tgood _ (List.mem_cons_self ..)
  have ga := Zuh hI.good hab.1
  have gb := Zuh hI.good hab.2
  have sa := Zxr hI.idem a
  have sb := Zxr hI.idem b
  have hin := hI.tin _ (List.mem_cons_self ..)
  have va : ∀ y, (a.res L).occ y = true → y ∈ V := fun y hy => by
   rcases Zwe hy with h | ⟨p, hp, h⟩
   ·exact hin y (.inl h)
   ·exact hI.vin p hp y h
  have vb : ∀ y, (b.res L).occ y = true → y ∈ V := fun y hy => by
   rcases Zwe hy with h | ⟨p, hp, h⟩
   ·exact hin y (.inr h)
   ·exact hI.vin p hp y h
  have hI0 : Inv V L T h0 := ⟨hI.good, hI.idem, hI.vin, fun q hq => hI.tgood q (List.mem_cons_of_mem _ hq), fun q hq => hI.tin q (List.mem_cons_of_mem _ hq), hI.vok, hI.hok.2, hI.top, hI.len⟩
  have htot : tot L T < n := by rw [← hn]; show _ < (a.sub L).nod + tot L T; have := ZBs (a.sub L); omega
  have skip : a.sub L = b.sub L → Zna V L ((a, b) :: T) (Zp 0 (atL 0 L) (L.map toB) (stk T)) (Zv (L.map toB) 0 (stk T)) := fun heq => by
   rw [ZAW]
   refine (ihn _ htot L T h0 hm rfl hI0).back (fun L' h1 h2 p hp => ?_) (fun R hU hL hT q hq => hT q (List.mem_cons_of_mem _ hq))
   rcases List.mem_cons.1 hp with rfl | hp
   ·show a.sub L' = b.sub L'; rw [← h1 a, heq, h1]
   ·exact h2 p hp
  have hRab : ∀ R : ST → ST → Prop, UC R → (∀ p ∈ L, R (.v p.1) p.2) → (∀ q ∈ (a, b) :: T, R q.1 q.2) → R (a.res L) (b.res L) := fun R hU hL hT =>
   hU.trans _ _ _ (hU.symm _ _ (hU.res hL a)) (hU.trans _ _ _ (hT _ (List.mem_cons_self ..)) (hU.res hL b))
  generalize ha' : a.res L = A at *
  generalize hb' : b.res L = B at *
  have bnd : ∀ (x : ByteArray) (t : ST), lk x L = none → x ∈ V → t.good → (∀ y, t.occ y = true → y ∈ V) → ((a.sub L = .v x ∧ b.sub L = t.sub L) ∨ (b.sub L = .v x ∧ a.sub L = t.sub L)) → t.sub L ≠ .v x →
    Zna V L ((a, b) :: T) (Zaq ⟨L.map toB, atL 0 L⟩ x t.ty >>= fun r => Zp r.1 r.2.fat r.2.flist (stk T)) (Zb3 (L.map toB) x t.ty >>= fun r => Zv r.1 r.2 (stk T)) :=
   fun x t h1 h2 h3 h4 h5 h6 => Zxw hI h1 h2 h3 h4 h5 h6 (rec_ T)
  cases hA : A with
  | v x =>
   rw [hA] at ha' va sa
   have hx := Zp6 hI.idem ha'
   have hxs : a.sub L = .v x := by rw [← sa, ST.sub, hx]; rfl
   have hxV := va x (by simp [ST.occ])
   by_cases hB : B = .v x
   ·rw [hB] at sb ⊢
    rw [Zve, ZvM]
    exact skip (by rw [hxs, ← sb, ST.sub, hx]; rfl)
   ·have hne : ∀ y, B = .v y → x ≠ y := fun y hy e => hB (by rw [hy, e])
    rw [Zqn _ _ _ _ hne, ZyE _ _ _ _ hne]
    refine bnd x B hx hxV gb vb (.inl ⟨hxs, sb.symm⟩) fun he => ?_
    cases hB2 : B with
    | v y =>
     rw [hB2] at hb' he
     have hy := Zp6 hI.idem hb'
     rw [ST.sub, hy] at he
     exact hB (by rw [hB2]; exact he)
    | k y => rw [hB2] at he; cases he
    | a g y => rw [hB2] at he; cases he
  | k s =>
   rw [hA] at ha' va sa ga
   cases hB : B with
   | v y =>
    rw [hB] at hb' vb sb
    have hy := Zp6 hI.idem hb'
    have hys : b.sub L = .v y := by rw [← sb, ST.sub, hy]; rfl
    rw [Zuk _ _ _ _ rfl, ZuJ _ _ _ _ rfl]
    exact bnd y (.k s) hy (vb y (by simp [ST.occ])) ga va (.inr ⟨hys, sa.symm⟩) (fun he => by cases he)
   | k s2 =>
    rw [hB] at sb
    rw [ZuE, ZAq]
    by_cases hs : s = s2
    ·rw [if_pos hs, if_pos hs]
     exact skip (by rw [← sa, ← sb, hs])
    ·rw [if_neg hs, if_neg hs]
     exact Zna.err (M := L) (.inr (.inl rfl)) fun R hU hL hT => absurd (hU.kk _ _ (by have := hRab R hU hL hT; rw [hA, hB] at this; exact this)) hs
   | a g w => rw [Zzr, Zz3]; exact Zna.err (M := L) (.inr (.inl rfl)) fun R hU hL hT => absurd (by have := hRab R hU hL hT; rw [hA, hB] at this; exact this) (hU.ka s g w)
  | a f z =>
   rw [hA] at ha' va sa ga
   cases hB : B with
   | v y =>
    rw [hB] at hb' vb sb
    have hy := Zp6 hI.idem hb'
    have hys : b.sub L = .v y := by rw [← sb, ST.sub, hy]; rfl
    rw [Zuk _ _ _ _ rfl, ZuJ _ _ _ _ rfl]
    exact bnd y (.a f z) hy (vb y (by simp [ST.occ])) ga va (.inr ⟨hys, sa.symm⟩) (fun he => by cases he)
   | k s2 => rw [Zyq, ZAg]; exact Zna.err (M := L) (.inr (.inl rfl)) fun R hU hL hT => absurd (hU.symm _ _ (by have := hRab R hU hL hT; rw [hA, hB] at this; exact this)) (hU.ka s2 f z)
   | a g w =>
    rw [hB] at hb' vb sb gb
    rw [ZAa _ _ _ _ _ _ (by have := hI.top; omega), ZyH _ _ _ _ _ _ (by have := hI.top; omega), ZAW]
    obtain ⟨gf, gz⟩ := Zr0 ga
    obtain ⟨gg, gw⟩ := Zr0 gb
    have hd := hI.hok.1
    rw [← sa] at hd
    have d0 := Zwy hI.good f
    have d1 := Zwy hI.good z
    have df := (ZcN.1 gf.2).2
    have dz := (ZcN.1 gz.2).2
    have hI1 : Inv V L ((f, g) :: (z, w) :: T) h0 := by
     refine ⟨hI.good, hI.idem, hI.vin, fun q hq => ?_, fun q hq y hy => ?_, hI.vok, ⟨?_, ?_, hI.hok.2⟩, hI.top, hI.len⟩
     ·rcases List.mem_cons.1 hq with rfl | hq
      ·exact ⟨gf, gg⟩
      ·rcases List.mem_cons.1 hq with rfl | hq
       ·exact ⟨gz, gw⟩
       ·exact hI.tgood q (List.mem_cons_of_mem _ hq)
     ·rcases List.mem_cons.1 hq with rfl | hq
      ·exact hy.elim (fun h => va y (by simp [ST.occ, h])) (fun h => vb y (by simp [ST.occ, h]))
      ·rcases List.mem_cons.1 hq with rfl | hq
       ·exact hy.elim (fun h => va y (by simp [ST.occ, h])) (fun h => vb y (by simp [ST.occ, h]))
       ·exact hI.tin q (List.mem_cons_of_mem _ hq) y hy
     ·rw [ST.sub, ST.dep] at hd
      show ((z, w) :: T).length + 1 ≤ h0 ∨ (f.sub L).dep + (((z, w) :: T).length + 1) ≤ 200 + h0
      rw [List.length_cons]
      omega
     ·rw [ST.sub, ST.dep] at hd
      show T.length + 1 ≤ h0 ∨ (z.sub L).dep + (T.length + 1) ≤ 200 + h0
      omega
    refine (ihn _ ?_ L _ h0 hm rfl hI1).back (fun L' h1 h2 p hp => ?_) (fun R hU hL hT q hq => ?_)
    rotate_left 2
    ·have hab2 := hRab R hU hL hT
     rw [hA, hB] at hab2
     obtain ⟨i1, i2⟩ := hU.inv _ _ _ _ hab2
     rcases List.mem_cons.1 hq with rfl | hq
     ·exact i1
     ·rcases List.mem_cons.1 hq with rfl | hq
      ·exact i2
      ·exact hT q (List.mem_cons_of_mem _ hq)
    ·rw [← hn]
     show (f.sub L).nod + ((z.sub L).nod + tot L T) < (a.sub L).nod + tot L T
     rw [← sa, ST.sub, ST.nod]; omega
    ·rcases List.mem_cons.1 hp with rfl | hp
     ·show a.sub L' = b.sub L'
      have e1 := h2 (f, g) (by simp)
      have e2 := h2 (z, w) (by simp)
      rw [← h1 a, ← h1 b, ← sa, ← sb, h1, h1, ST.sub, ST.sub]
      show ST.a _ _ = ST.a _ _
      rw [show f.sub L' = g.sub L' from e1, show z.sub L' = w.sub L' from e2]
     ·exact h2 p (by simp [hp])

def ZtH (p : Zn) : Bool := ZnR p.e0 && ZnR p.e1
def ZBa (l : List Zn) : Nat := (l.map fun p => p.e0.vol + p.e1.vol).sum
theorem Zx5 {α : Type} {l : List α} {k : Nat} {x : α} (h : l[k]? = some x) : l.take (k + 1) = l.take k ++ [x] := by
 rw [List.take_add_one, h]; rfl
theorem ZAm {α : Type} {l : List α} {k : Nat} {x : α} (h : l[k]? = some x) : (l.drop k).reverse = (l.drop (k + 1)).reverse ++ [x] := by
 obtain ⟨hk, rfl⟩ := List.getElem?_eq_some_iff.1 h
 rw [List.drop_eq_getElem_cons hk, List.reverse_cons]
def ZD7 (pairs : List Zn) : Option (List Ze × Int) :=
 Zcp (Zr.mk ([] : List Ze) ([] : List (ByteArray × Int))) pairs.reverse >>= fun Zpc => Zb9 Zpc.2.1.flist >>= fun Zuf => some (Zuf, Zpc.1)
theorem ZwD (pairs : List Zn) (hl : pairs.length ≤ 1000000000) (hv : ∀ p ∈ pairs, p.e0.vol ≤ 1000000000 ∧ p.e1.vol ≤ 1000000000) : ∀ k : Nat, k ≤ pairs.length →
  Zc9 pairs (((k : Nat) : Int) - 1) (pairs.drop k).reverse = if (pairs.take k).all ZtH = true then ZD7 pairs else some ([], 1)
 | 0, _ => by rw [Zc9, decide_eq_false (by omega), ifF]; rfl
 | k + 1, hk => by
  have hx : pairs[k]? = some pairs[k] := List.getElem?_eq_getElem hk
  have hm := hv _ (List.mem_of_getElem? hx)
  generalize pairs[k] = x at hx hm
  rw [show ((k + 1 : Nat) : Int) - 1 = ((k : Nat) : Int) from by omega, Zc9, decide_eq_true (Int.natCast_nonneg k), ifT, Zk4, hx, Zm, ZBO _ hm.1, Zm, Zx5 hx, List.all_append]
  have e1 : ([x].all ZtH) = ZtH x := by simp
  have ih := ZwD pairs hl hv k (by omega)
  rw [e1]; unfold ZtH at ih ⊢
  cases h0 : ZnR x.e0 with
  | false => rw [Bool.false_and, Bool.and_false]; rfl
  | true =>
   show ((some x >>= fun x93 => Zdp x93.e1 >>= fun r94 => some (!r94)) >>= _) = _
   rw [Zm, ZBO _ hm.2, Zm, Zm]
   cases h1 : ZnR x.e1 with
   | false => rw [Bool.and_false, Bool.and_false]; rfl
   | true =>
    rw [Bool.true_and, Bool.and_true, Bool.not_true, ifF, Zm, Zc0 _ (by simp; omega), ← ZAm hx, w64 (by omega) (by omega), ih]
theorem ZBE (pairs : List Zn) (hl : pairs.length ≤ 1000000000) (hv : ∀ p ∈ pairs, p.e0.vol ≤ 1000000000 ∧ p.e1.vol ≤ 1000000000) : ZgL pairs = if pairs.all ZtH = true then ZD7 pairs else some ([], 1) := by
 have := ZwD pairs hl hv pairs.length (Nat.le_refl _)
 rw [List.drop_length, List.take_length] at this
 rw [ZgL, w64 (by omega) (by omega)]
 exact this
theorem Zxm (l : List Ze) : ∀ (L A : SB) (k : Nat), A.length + L.length ≤ 1000000000 → Zco (A.map toB) l k (L.map toB) = some ((A ++ L).map toB)
 | [], A, k, _ => by rw [List.map_nil, Zco, List.append_nil]
 | p :: L, A, k, h => by
  rw [List.length_cons] at h
  have ih := Zxm l L (A ++ [p]) (k + 1) (by simp; omega)
  rw [List.map_cons, Zco]
  show (Zb2 p.2.ty >>= _) = _
  rw [ZyY, Zm, Zc0 _ (by simp; omega)]
  have e : A.map toB ++ [Ze.mk (toB p).fName p.2.ty] = (A ++ [p]).map toB := by simp [toB]
  rw [e, ih, List.append_assoc]; rfl
theorem Zoo (L : SB) (h : L.length ≤ 1000000000) : Zb9 (L.map toB) = some (L.map toB) := by
 have := Zxm (L.map toB) L [] 0 (by simpa using h)
 rw [Zb9]; exact this
theorem Zxb {t : ST} : t.nms = true → ∀ {y : ByteArray}, t.occ y = true → Zhk y = true ∧ y.size ≤ 1048576 := by
 induction t with
 | v s => intro h y hy; simp only [ST.nms, Bool.and_eq_true, decide_eq_true_eq] at h; simp only [ST.occ, decide_eq_true_eq] at hy; subst hy; exact h
 | k s => intro h y hy; cases hy
 | a f x ihf ihx =>
  intro h y hy
  simp only [ST.nms, Bool.and_eq_true] at h
  simp only [ST.occ, Bool.or_eq_true] at hy
  exact hy.elim (ihf h.1) (ihx h.2)
def Zm1 (P : SP) : List ByteArray := P.flatMap fun p => p.1.fr [] ++ p.2.fr []
theorem Zr2 : ∀ P : SP, (Zm1 P).length ≤ ZBa (P.map toP)
 | [] => Nat.le_refl _
 | p :: P => by
  have ih := Zr2 P
  have h1 := Zu8 p.1 []
  have h2 := Zu8 p.2 []
  have h3 := Zof p.1.ty
  have h4 := Zof p.2.ty
  rw [Zhb] at h3 h4
  unfold Zm1 ZBa at *
  rw [List.flatMap_cons, List.map_cons, List.map_cons, List.sum_cons]
  simp only [List.length_append, List.length_nil] at *
  show _ ≤ p.1.ty.vol + p.2.ty.vol + _
  omega
theorem ZxX {P : SP} {p : ST × ST} (hp : p ∈ P) {y : ByteArray} (h : p.1.occ y = true ∨ p.2.occ y = true) : y ∈ Zm1 P := by
 unfold Zm1
 rw [List.mem_flatMap]
 exact ⟨p, hp, List.mem_append.2 (h.imp (fun h => (Zm8 y _ []).2 (.inr h)) (fun h => (Zm8 y _ []).2 (.inr h)))⟩
theorem ZzL {P : SP} (hP : ∀ p ∈ P, p.1.good ∧ p.2.good) {y : ByteArray} (h : y ∈ Zm1 P) : Zhk y = true ∧ y.size ≤ 1048576 := by
 unfold Zm1 at h
 rw [List.mem_flatMap] at h
 obtain ⟨p, hp, h⟩ := h
 rcases List.mem_append.1 h with h | h
 ·exact Zxb (hP p hp).1.1 (((Zm8 y _ []).1 h).resolve_left (by simp))
 ·exact Zxb (hP p hp).2.1 (((Zm8 y _ []).1 h).resolve_left (by simp))

def bA : ByteArray := ByteArray.mk #[97]
def ZmI : ByteArray := ByteArray.mk #[73, 110, 116]
def Zwi : ByteArray := ByteArray.mk #[66, 111, 111, 108]
def Zvz : ByteArray := ByteArray.mk #[91, 93]
theorem okA : Zhk bA = true ∧ bA.size ≤ 1048576 := ⟨by decide +kernel, by decide +kernel⟩
theorem gA : (ST.v bA).good := ⟨by decide +kernel, by decide +kernel⟩
theorem ZDj : (ST.k ZmI).good := ⟨by decide +kernel, by decide +kernel⟩
theorem ZF0 : (ST.k Zwi).good := ⟨by decide +kernel, by decide +kernel⟩
theorem ZE5 : (ST.a (.k Zvz) (.v bA)).good := ⟨by decide +kernel, by decide +kernel⟩
theorem Zuu {s : ST} (h : s.good) (hn : s.nod ≤ 500) : s.ty.vol ≤ 1000000000 := by have := Zri s h.1; omega
theorem ZvT (a b : ST) (ha : a.good) (hb : b.good) (na : a.nod ≤ 500) (nb : b.nod ≤ 500) : Zbw a.ty b.ty = (Zz (atL 0 []) (([] : SB).map toB) (stk [(a, b)]) >>= fun Zpc => Zb9 Zpc.2.1.flist >>= fun Zuf => some (Zuf, Zpc.1)) := by
 rw [Zbw, ZBE _ (by simp) (fun p hp => by rw [List.mem_singleton] at hp; subst hp; exact ⟨Zuu ha na, Zuu hb nb⟩)]
 have : [Zn.mk a.ty b.ty].all ZtH = true := by simp [ZtH, ZnU ha, ZnU hb]
 rw [if_pos this]
 show ((Zz (atL 0 []) (([] : SB).map toB) (stk [(a, b)]) >>= fun Zpc => Zb9 Zpc.2.1.flist >>= fun Zuf => some (Zuf, Zpc.1)) >>= fun r1 => some (r1.1, r1.2)) = _
 cases Zz (atL 0 []) (([] : SB).map toB) (stk [(a, b)]) with
 | none => rfl
 | some r =>
  rw [Zm]
  cases Zb9 r.2.1.flist <;> rfl
theorem Zuz : Zgx [] := fun p hp => absurd hp List.not_mem_nil
theorem ex1 : Zbw (ST.v bA).ty (ST.k ZmI).ty = some ([Ze.mk bA (ST.k ZmI).ty], 0) := by
 rw [ZvT _ _ gA ZDj (by decide) (by decide), ZtC [] [] _ _ (by decide)]
 show (Zih [] (stk []) (ST.v bA).ty (ST.k ZmI).ty >>= _) = _
 rw [Zqn _ _ _ _ (fun y h => by cases h)]
 obtain ⟨s', h1, h2⟩ := Zvw [] Zuz bA okA rfl (.k ZmI) ZDj (by decide)
 have hb : ZfF [] bA (.k ZmI) = (0, [(bA, .k ZmI)]) := rfl
 rw [hb] at h1 h2
 rw [h1, h2 rfl, Zm]
 show (Zp 0 (atL 0 [(bA, .k ZmI)]) ([(bA, .k ZmI)].map toB) [] >>= _) = _
 rw [ZAW, Zz]
 show (Zb9 ([(bA, .k ZmI)].map toB) >>= _) = _
 rw [Zoo _ (by simp)]
 rfl
theorem ex2 : Zbw (ST.v bA).ty (ST.a (.k Zvz) (.v bA)).ty = some ([], 23) := by
 rw [ZvT _ _ gA ZE5 (by decide) (by decide), ZtC [] [] _ _ (by decide)]
 show (Zih [] (stk []) (ST.v bA).ty (ST.a (.k Zvz) (.v bA)).ty >>= _) = _
 rw [Zqn _ _ _ _ (fun y h => by cases h)]
 obtain ⟨s', h1, h2⟩ := Zvw [] Zuz bA okA rfl (.a (.k Zvz) (.v bA)) ZE5 (by decide)
 have hb : ZfF [] bA (.a (.k Zvz) (.v bA)) = (23, []) := by
  unfold ZfF
  have : ((ST.a (.k Zvz) (.v bA)).sub []).occ bA = true := by simp [ST.sub, ST.occ, lk]
  rw [if_pos this]
 rw [hb] at h1
 rw [h1, Zm, ZAD 23 (by decide), Zm]
 show (Zb9 (([] : SB).map toB) >>= _) = _
 rw [Zoo _ (by simp)]
 rfl
theorem ex3 : Zbw (ST.k ZmI).ty (ST.k Zwi).ty = some ([], 22) := by
 rw [ZvT _ _ ZDj ZF0 (by decide) (by decide), ZtC [] [] _ _ (by decide)]
 show (Zih [] (stk []) (ST.k ZmI).ty (ST.k Zwi).ty >>= _) = _
 rw [ZuE, if_neg (by decide +kernel), ZAD 22 (by decide), Zm]
 show (Zb9 (([] : SB).map toB) >>= _) = _
 rw [Zoo _ (by simp)]
 rfl
theorem ZHM : ZbC = some true := by
 unfold ZbC ZcP
 rw [Zm]
 show (Zbw (ST.v bA).ty (ST.k ZmI).ty >>= _) = _
 rw [ex1, Zm, Zm]
 show (Zbw (ST.v bA).ty (ST.a (.k Zvz) (.v bA)).ty >>= _) = _
 rw [ex2, Zm, Zm, Zm]
 show (Zbw (ST.k ZmI).ty (ST.k Zwi).ty >>= _) = _
 rw [ex3, Zm]
 show (some (bA.toList == bA.toList) >>= _) = _
 rw [Zm, ZkU, decide_eq_true rfl, ifT]
 show ((some (ZmI.toList == ZmI.toList)) >>= _) = _
 rw [Zm, ZkU, decide_eq_true rfl]
 rfl
theorem Zwf (l : List Za) : ∀ (xs : List Za) (n : Int) (k : Nat), (∀ t ∈ xs, t.vol ≤ 1000000000) → ∃ b, Za4 l n k xs = some b
 | [], n, k, _ => ⟨_, by rw [Za4]⟩
 | t :: xs, n, k, h => by
  have hB : BIG = 1000000000000 := rfl
  have ht := h t (by simp)
  have hn := Zof t
  rw [Za4, ZqS t (by omega), Zm, ZnM t (by omega), Zm]
  split
  ·exact ⟨false, rfl⟩
  ·exact Zwf l xs _ _ fun u hu => h u (by simp [hu])
theorem ZyL (l : List Za) (h : ∀ t ∈ l, t.vol ≤ 1000000000) : ∃ b, ZcW l = some b := by
 rw [ZcW]; exact Zwf l l 0 0 h

theorem Zui {α : Type} {l t : List α} {i : Nat} {y : α} (h : l.drop i = y :: t) : l[i]? = some y ∧ l.drop (i + 1) = t := by
 constructor
 ·have := congrArg (fun l => l[0]?) h
  simpa [List.getElem?_drop] using this
 ·rw [← List.drop_drop, h]; rfl
theorem ZE1 (a b : Zi) : ∀ (xs : List Zi) (i : Nat), (∀ x ∈ xs, ∀ c : Zi, ∃ r, Zal x c = some r ∧ (r = true ↔ x = c)) → xs.length = (b.fArgs.drop i).length →
  ∃ r, ZaK i a b xs = some r ∧ (r = true ↔ xs = b.fArgs.drop i)
 | [], i, _, hl => by
  rw [ZaK]
  exact ⟨true, rfl, fun _ => (List.eq_nil_of_length_eq_zero hl.symm).symm, fun _ => rfl⟩
 | x :: xs, i, h, hl => by
  cases hd : b.fArgs.drop i with
  | nil => rw [hd] at hl; simp at hl
  | cons y t =>
   obtain ⟨h1, h2⟩ := Zui hd
   rw [ZaK, h1, Zm]
   obtain ⟨r, e1, e2⟩ := h x (by simp) y
   rw [e1, Zm]
   cases r with
   | false =>
    refine ⟨false, rfl, fun h => (by cases h), fun h => ?_⟩
    injection h with h3 h4
    exact absurd (e2.2 h3) (by simp)
   | true =>
    have hxy := e2.1 rfl
    subst hxy
    obtain ⟨r2, e3, e4⟩ := ZE1 a b xs (i + 1) (fun z hz => h z (by simp [hz])) (by rw [h2]; rw [hd] at hl; simpa using hl)
    refine ⟨r2, e3, fun h => ?_, fun h => ?_⟩
    ·rw [e4.1 h, h2]
    ·injection h with _ h; exact e4.2 (by rw [h2]; exact h)
theorem sk (a : Zi) : ∀ b : Zi, ∃ r, Zal a b = some r ∧ (r = true ↔ a = b) := by
 refine Zi.ind (M := fun a => ∀ b : Zi, ∃ r, Zal a b = some r ∧ (r = true ↔ a = b)) (fun a ih b => ?_) a
 rw [Zal]
 by_cases hl : a.fArgs.length = b.fArgs.length
 ·have e : ((((a.fArgs.length : Nat) : Int) != ((b.fArgs.length : Nat) : Int))) = false := by rw [hl]; simp
  rw [e, ifF]
  obtain ⟨r, h1, h2⟩ := ZE1 a b a.fArgs 0 (fun x hx c => ih x hx c) (by simpa using hl)
  refine ⟨r, h1, fun h => ?_, fun h => h2.2 (by rw [h]; rfl)⟩
  have := h2.1 h
  cases a; cases b; exact congrArg Zi.mk this
 ·have e : ((((a.fArgs.length : Nat) : Int) != ((b.fArgs.length : Nat) : Int))) = true := by
   rw [bne_iff_ne]; intro h; exact hl (by omega)
  rw [e, ifT]
  exact ⟨false, rfl, fun h => (by cases h), fun h => absurd (by rw [h]) hl⟩
def lst (X : List ByteArray) (n : ByteArray) : Int := (Zb5 X n).getD 0
theorem Zzy (X : List ByteArray) (n : ByteArray) (hX : X.length ≤ 2000000000) : ∀ k : Nat, k ≤ X.length → ∃ r, Zbj X n (((k : Nat) : Int) - 1) = some r
 | 0, _ => by
  rw [Zbj]
  exact ⟨-1, rfl⟩
 | k + 1, hk => by
  have e : (((k + 1 : Nat) : Int) - 1) = ((k : Nat) : Int) := by omega
  rw [e, Zbj, decide_eq_true (Int.natCast_nonneg k), ifT, Zk4]
  have hg : X[k]? = some (X[k]'(by omega)) := List.getElem?_eq_getElem _
  rw [hg, Zm, ZkU]
  by_cases h : X[k]'(by omega) = n
  ·rw [decide_eq_true h, ifT]; exact ⟨_, rfl⟩
  ·rw [decide_eq_false h, ifF, w64 (by omega) (by omega)]
   exact Zzy X n hX k (by omega)
theorem Zww (X : List ByteArray) (n : ByteArray) (hX : X.length ≤ 2000000000) : Zb5 X n = some (lst X n) := by
 have : ∃ r, Zb5 X n = some r := by
  rw [Zb5, w64 (by omega) (by omega)]
  exact Zzy X n hX X.length (Nat.le_refl _)
 obtain ⟨r, h⟩ := this
 unfold lst; rw [h]; rfl
def VE (X Y : List ByteArray) (n m : ByteArray) : Prop := lst X n = lst Y m ∧ (0 ≤ lst X n ∨ n = m)
mutual
def Za.ar : Za → Za → List ByteArray → List ByteArray → Prop
 | .mk o n k ks, b, X, Y => o = b.fOp ∧ ks.length = b.fKids.length ∧ k = b.fBound ∧ (o = 1 → VE X Y n b.fName) ∧ (o ≠ 1 → o ≠ 4 → n = b.fName ∧ Za.ars ks b.fKids X Y) ∧ (o = 4 → Za.ars ks b.fKids (X ++ [n]) (Y ++ [b.fName]))
def Za.ars : List Za → List Za → List ByteArray → List ByteArray → Prop
 | [], _, _, _ => True
 | x :: xs, ys, X, Y => ∃ y t, ys = y :: t ∧ Za.ar x y X Y ∧ Za.ars xs t X Y
end
theorem ZnY (a b : Za) (X Y : List ByteArray) : a.ar b X Y ↔ (a.fOp = b.fOp ∧ a.fKids.length = b.fKids.length ∧ a.fBound = b.fBound ∧ (a.fOp = 1 → VE X Y a.fName b.fName) ∧ (a.fOp ≠ 1 → a.fOp ≠ 4 → a.fName = b.fName ∧ Za.ars a.fKids b.fKids X Y) ∧ (a.fOp = 4 → Za.ars a.fKids b.fKids (X ++ [a.fName]) (Y ++ [b.fName]))) := by
 cases a; rw [Za.ar]; rfl
theorem ZnP (ys : List Za) (X Y : List ByteArray) : Za.ars [] ys X Y := by rw [Za.ars]; trivial
theorem Ze2 (x : Za) (xs ys : List Za) (X Y : List ByteArray) : Za.ars (x :: xs) ys X Y ↔ ∃ y t, ys = y :: t ∧ x.ar y X Y ∧ Za.ars xs t X Y := by rw [Za.ars]
theorem ZsQ (a b : Za) (X Y : List ByteArray) : ∀ (xs : List Za) (i : Nat), (∀ x ∈ xs, ∀ c : Za, ∃ r, ZaF x c X Y = some r ∧ (r = true ↔ x.ar c X Y)) → xs.length = (b.fKids.drop i).length →
  ∃ r, Zbn X Y i a b xs = some r ∧ (r = true ↔ Za.ars xs (b.fKids.drop i) X Y)
 | [], i, _, hl => by
  rw [Zbn]
  exact ⟨true, rfl, fun _ => ZnP _ _ _, fun _ => rfl⟩
 | x :: xs, i, h, hl => by
  cases hd : b.fKids.drop i with
  | nil => rw [hd] at hl; simp at hl
  | cons y t =>
   obtain ⟨h1, h2⟩ := Zui hd
   rw [Zbn, h1, Zm]
   obtain ⟨r, e1, e2⟩ := h x (by simp) y
   rw [e1, Zm, Ze2]
   cases r with
   | false =>
    refine ⟨false, rfl, fun h => (by cases h), fun ⟨y', t', h3, h4, h5⟩ => ?_⟩
    injection h3 with h3 _
    subst h3
    exact absurd (e2.2 h4) (by simp)
   | true =>
    obtain ⟨r2, e3, e4⟩ := ZsQ a b X Y xs (i + 1) (fun z hz => h z (by simp [hz])) (by rw [h2]; rw [hd] at hl; simpa using hl)
    refine ⟨r2, e3, fun h => ⟨y, t, rfl, e2.1 rfl, by rw [← h2]; exact e4.1 h⟩, fun ⟨y', t', h3, h4, h5⟩ => ?_⟩
    injection h3 with _ h3
    subst h3
    exact e4.2 (by rw [h2]; exact h5)
theorem gd (p : Prop) [Decidable p] (h : p) : ZK p = some () := by unfold ZK; rw [if_pos h]
theorem ZkE {k : Za} : ∀ {l : List Za}, k ∈ l → k.dep ≤ Za.deps l
 | x :: l, h => by
  rw [Ze6]
  rcases List.mem_cons.1 h with rfl | h
  ·exact Nat.le_max_left ..
  ·exact Nat.le_trans (ZkE h) (Nat.le_max_right ..)
theorem Zyi (a : Za) : ∀ (b : Za) (X Y : List ByteArray), X.length + a.dep ≤ 1000000000 → Y.length + a.dep ≤ 1000000000 → ∃ r, ZaF a b X Y = some r ∧ (r = true ↔ a.ar b X Y) := by
 refine Za.ind (M := fun a => ∀ (b : Za) (X Y : List ByteArray), X.length + a.dep ≤ 1000000000 → Y.length + a.dep ≤ 1000000000 → ∃ r, ZaF a b X Y = some r ∧ (r = true ↔ a.ar b X Y)) (fun a ih b X Y hX hY => ?_) a
 rw [Zk5] at hX hY
 rw [ZaF, ZnY]
 by_cases h0 : a.fOp = b.fOp ∧ a.fKids.length = b.fKids.length
 ·obtain ⟨ho, hl⟩ := h0
  have e : ((a.fOp != b.fOp) || (((a.fKids.length : Nat) : Int) != ((b.fKids.length : Nat) : Int))) = false := by rw [ho, hl]; simp
  rw [e, ifF]
  obtain ⟨r, h1, h2⟩ := sk a.fBound b.fBound
  rw [h1, Zm, Zm]
  cases r with
  | false =>
   rw [Bool.not_false, ifT]
   exact ⟨false, rfl, fun h => (by cases h), fun h => absurd (h2.2 h.2.2.1) (by simp)⟩
  | true =>
   rw [Bool.not_true, ifF]
   have hk := h2.1 rfl
   by_cases o1 : a.fOp = 1
   ·have e1 : (a.fOp == 1) = true := by rw [o1]; rfl
    rw [e1, ifT, Zww X _ (by omega), Zm, Zww Y _ (by omega), Zm]
    refine ⟨_, rfl, ?_⟩
    simp only [Bool.and_eq_true, beq_iff_eq, Bool.or_eq_true, decide_eq_true_eq, ZkU]
    constructor
    ·intro h; exact ⟨ho, hl, hk, fun _ => ⟨h.1, h.2⟩, fun h1 => absurd o1 h1, fun h4 => by rw [o1] at h4; cases h4⟩
    ·intro h; exact h.2.2.2.1 o1
   ·have e1 : (a.fOp == 1) = false := by rw [beq_eq_false_iff_ne]; exact o1
    rw [e1, ifF]
    by_cases o4 : a.fOp = 4
    ·have e4 : (a.fOp == 4) = true := by rw [o4]; rfl
     rw [e4, ifT]
     have g1 : ZK ((0 + X.length) * 16 ≤ 140737488355328) = some () := gd _ (by omega)
     have g2 : ZK ((X.length + ([a.fName]).length) * 16 ≤ 140737488355328) = some () := gd _ (by simp; omega)
     have g3 : ZK ((0 + Y.length) * 16 ≤ 140737488355328) = some () := gd _ (by omega)
     have g4 : ZK ((Y.length + ([b.fName]).length) * 16 ≤ 140737488355328) = some () := gd _ (by simp; omega)
     rw [g1, Zm, g2, Zm, g3, Zm, g4, Zm, ZbI]
     obtain ⟨r, h3, h4⟩ := ZsQ a b (X ++ [a.fName]) (Y ++ [b.fName]) a.fKids 0 (fun x hx c => ih x hx c _ _ (by have := ZkE hx; simp; omega) (by have := ZkE hx; simp; omega)) (by simpa using hl)
     refine ⟨r, h3, fun h => ⟨ho, hl, hk, fun h1 => absurd h1 o1, fun _ h1 => absurd o4 h1, fun _ => h4.1 h⟩, fun h => h4.2 (h.2.2.2.2.2 o4)⟩
    ·have e4 : (a.fOp == 4) = false := by rw [beq_eq_false_iff_ne]; exact o4
     rw [e4, ifF, ZkU]
     by_cases hn : a.fName = b.fName
     ·rw [decide_eq_true hn, Bool.not_true, ifF, ZbI]
      obtain ⟨r, h3, h4⟩ := ZsQ a b X Y a.fKids 0 (fun x hx c => ih x hx c _ _ (by have := ZkE hx; omega) (by have := ZkE hx; omega)) (by simpa using hl)
      refine ⟨r, h3, fun h => ⟨ho, hl, hk, fun h1 => absurd h1 o1, fun _ _ => ⟨hn, h4.1 h⟩, fun h1 => absurd h1 o4⟩, fun h => h4.2 (h.2.2.2.2.1 o1 o4).2⟩
     ·rw [decide_eq_false hn, Bool.not_false, ifT]
      exact ⟨false, rfl, fun h => (by cases h), fun h => absurd (h.2.2.2.2.1 o1 o4).1 hn⟩
 ·have e : ((a.fOp != b.fOp) || (((a.fKids.length : Nat) : Int) != ((b.fKids.length : Nat) : Int))) = true := by
   rw [Bool.or_eq_true, bne_iff_ne, bne_iff_ne]
   by_cases h1 : a.fOp = b.fOp
   ·right; intro h; exact h0 ⟨h1, by omega⟩
   ·exact .inl h1
  rw [e, ifT, Zm, ifT]
  exact ⟨false, rfl, fun h => (by cases h), fun h => absurd ⟨h.1, h.2.1⟩ h0⟩
theorem ZqW (X : List ByteArray) : ∀ l : List Za, (∀ x ∈ l, x.ar x X X) → Za.ars l l X X
 | [], _ => ZnP _ _ _
 | x :: l, h => (Ze2 ..).2 ⟨x, l, rfl, h x (by simp), ZqW X l fun y hy => h y (by simp [hy])⟩
theorem ZBn (a : Za) : ∀ X : List ByteArray, a.ar a X X := by
 refine Za.ind (M := fun a => ∀ X : List ByteArray, a.ar a X X) (fun a ih X => ?_) a
 rw [ZnY]
 exact ⟨rfl, rfl, rfl, fun _ => ⟨rfl, .inr rfl⟩, fun _ _ => ⟨rfl, ZqW X _ fun x hx => ih x hx X⟩, fun _ => ZqW _ _ fun x hx => ih x hx _⟩
theorem Zqb {X Y : List ByteArray} : ∀ (l m : List Za), l.length = m.length → (∀ x ∈ l, ∀ y, x.ar y X Y → y.ar x Y X) → Za.ars l m X Y → Za.ars m l Y X
 | [], m, hl, _, _ => by rw [List.eq_nil_of_length_eq_zero hl.symm]; exact ZnP _ _ _
 | x :: l, m, hl, h, hr => by
  obtain ⟨y, t, rfl, h1, h2⟩ := (Ze2 ..).1 hr
  exact (Ze2 ..).2 ⟨x, l, rfl, h x (by simp) y h1, Zqb l t (by simpa using hl) (fun z hz => h z (by simp [hz])) h2⟩
theorem ZBj (a : Za) : ∀ (b : Za) (X Y : List ByteArray), a.ar b X Y → b.ar a Y X := by
 refine Za.ind (M := fun a => ∀ (b : Za) (X Y : List ByteArray), a.ar b X Y → b.ar a Y X) (fun a ih b X Y h => ?_) a
 rw [ZnY] at h ⊢
 obtain ⟨h1, h2, h3, h4, h5, h6⟩ := h
 refine ⟨h1.symm, h2.symm, h3.symm, fun o => ?_, fun o1 o4 => ?_, fun o => ?_⟩
 ·obtain ⟨g1, g2⟩ := h4 (h1.trans o)
  exact ⟨g1.symm, by rw [← g1]; exact g2.imp id Eq.symm⟩
 ·obtain ⟨g1, g2⟩ := h5 (fun e => o1 (h1.symm.trans e)) (fun e => o4 (h1.symm.trans e))
  exact ⟨g1.symm, Zqb _ _ h2 (fun x hx y => ih x hx y _ _) g2⟩
 ·exact Zqb _ _ h2 (fun x hx y => ih x hx y _ _) (h6 (h1.trans o))
theorem ZoR {X Y Z : List ByteArray} : ∀ (l m n : List Za), (∀ x ∈ l, ∀ y z, x.ar y X Y → y.ar z Y Z → x.ar z X Z) → Za.ars l m X Y → Za.ars m n Y Z → Za.ars l n X Z
 | [], m, n, _, _, _ => ZnP _ _ _
 | x :: l, m, n, h, hr, hs => by
  obtain ⟨y, t, rfl, h1, h2⟩ := (Ze2 ..).1 hr
  obtain ⟨z, u, rfl, h3, h4⟩ := (Ze2 ..).1 hs
  exact (Ze2 ..).2 ⟨z, u, rfl, h x (by simp) y z h1 h3, ZoR l t u (fun w hw => h w (by simp [hw])) h2 h4⟩
theorem ZAA (a : Za) : ∀ (b c : Za) (X Y Z : List ByteArray), a.ar b X Y → b.ar c Y Z → a.ar c X Z := by
 refine Za.ind (M := fun a => ∀ (b c : Za) (X Y Z : List ByteArray), a.ar b X Y → b.ar c Y Z → a.ar c X Z) (fun a ih b c X Y Z h k => ?_) a
 rw [ZnY] at h k ⊢
 obtain ⟨h1, h2, h3, h4, h5, h6⟩ := h
 obtain ⟨k1, k2, k3, k4, k5, k6⟩ := k
 refine ⟨h1.trans k1, h2.trans k2, h3.trans k3, fun o => ?_, fun o1 o4 => ?_, fun o => ?_⟩
 ·obtain ⟨g1, g2⟩ := h4 o
  obtain ⟨g3, g4⟩ := k4 (h1.symm.trans o)
  refine ⟨g1.trans g3, ?_⟩
  rcases g2 with g2 | g2
  ·exact .inl g2
  ·rcases g4 with g4 | g4
   ·exact .inl (by rw [g1]; exact g4)
   ·exact .inr (g2.trans g4)
 ·obtain ⟨g1, g2⟩ := h5 o1 o4
  obtain ⟨g3, g4⟩ := k5 (fun e => o1 (h1.trans e)) (fun e => o4 (h1.trans e))
  exact ⟨g1.trans g3, ZoR _ _ _ (fun x hx y z => ih x hx y z _ _ _) g2 g4⟩
 ·exact ZoR _ _ _ (fun x hx y z => ih x hx y z _ _ _) (h6 o) (k6 (h1.symm.trans o))
mutual
def Za.nk : Za → Bool | .mk o _ _ ks => (!(o == 1) || ks.isEmpty) && Za.nks ks
def Za.nks : List Za → Bool
 | [] => true
 | k :: ks => Za.nk k && Za.nks ks
end
theorem Zwj (t : Za) : t.nk = ((!(t.fOp == 1) || t.fKids.isEmpty) && Za.nks t.fKids) := by cases t; rw [Za.nk]; rfl
theorem ZuP (k : Za) (ks : List Za) : Za.nks (k :: ks) = (k.nk && Za.nks ks) := by rw [Za.nks]
theorem Zwh : ∀ {l : List Za}, Za.nks l = true → ∀ k ∈ l, k.nk = true
 | x :: l, h, k, hk => by
  rw [ZuP, Bool.and_eq_true] at h
  rcases List.mem_cons.1 hk with rfl | hk
  ·exact h.1
  ·exact Zwh h.2 k hk
theorem ZvL : ∀ {l : List Za}, (∀ k ∈ l, k.nk = true) → Za.nks l = true
 | [], _ => by rw [Za.nks]
 | x :: l, h => by rw [ZuP, h x (by simp), ZvL fun k hk => h k (by simp [hk])]; rfl
theorem Zrb : ∀ {l : List Za}, Za.fmss l = true → ∀ k ∈ l, k.fms = true
 | x :: l, h, k, hk => by
  rw [ZfO, Bool.and_eq_true] at h
  rcases List.mem_cons.1 hk with rfl | hk
  ·exact h.1
  ·exact Zrb h.2 k hk
theorem ZDl (t : Za) : t.fms = true → t.nk = true := by
 refine Za.ind (M := fun t => t.fms = true → t.nk = true) (fun t ih h => ?_) t
 rw [Zo3, Bool.and_eq_true] at h
 rw [Zwj, ZvL fun k hk => ih k hk (Zrb h.1 k hk), Bool.and_true]
 by_cases o : t.fOp = 1
 ·have := h.2
  unfold ZiW at this
  rw [if_pos o, Bool.and_eq_true] at this
  rw [List.eq_nil_of_length_eq_zero (of_decide_eq_true this.2)]
  simp
 ·have : (t.fOp == 1) = false := by rw [beq_eq_false_iff_ne]; exact o
  rw [this]; rfl
theorem ZwV {t : Za} (h : t.nk = true) : ∀ k ∈ t.fKids, k.nk = true := by
 rw [Zwj, Bool.and_eq_true] at h
 exact Zwh h.2
theorem ZyS {t : Za} (h : t.nk = true) (o : t.fOp = 1) : t.fKids = [] := by
 rw [Zwj, Bool.and_eq_true, o] at h
 simpa using h.1
theorem ZwB (a : Za) : ∀ (b : Za) (X Y : List ByteArray), a.nk = true → b.nk = true → a.ar b X Y → a.nod = b.nod ∧ a.dep = b.dep := by
 refine Za.ind (M := fun a => ∀ (b : Za) (X Y : List ByteArray), a.nk = true → b.nk = true → a.ar b X Y → a.nod = b.nod ∧ a.dep = b.dep) (fun a ih b X Y ha hb h => ?_) a
 rw [ZnY] at h
 obtain ⟨h1, h2, h3, h4, h5, h6⟩ := h
 rw [Zgu, Zgu, Zk5, Zk5]
 have go : ∀ {X Y : List ByteArray}, Za.ars a.fKids b.fKids X Y → Za.nods a.fKids = Za.nods b.fKids ∧ Za.deps a.fKids = Za.deps b.fKids := fun {X Y} hr => by
  have key : ∀ (l m : List Za), l.length = m.length → (∀ x ∈ l, x ∈ a.fKids) → (∀ y ∈ m, y ∈ b.fKids) → Za.ars l m X Y → Za.nods l = Za.nods m ∧ Za.deps l = Za.deps m := fun l => by
   induction l with
   | nil => intro m hl _ _ _; rw [List.eq_nil_of_length_eq_zero hl.symm]; exact ⟨rfl, rfl⟩
   | cons x l ihl =>
    intro m hl hx hy hr
    obtain ⟨y, t, rfl, g1, g2⟩ := (Ze2 ..).1 hr
    obtain ⟨g3, g4⟩ := ih x (hx x (by simp)) y X Y (ZwV ha _ (hx x (by simp))) (ZwV hb _ (hy y (by simp))) g1
    obtain ⟨g5, g6⟩ := ihl t (by simpa using hl) (fun z hz => hx z (by simp [hz])) (fun z hz => hy z (by simp [hz])) g2
    rw [ZcC, ZcC, Ze6, Ze6, g3, g4, g5, g6]; exact ⟨rfl, rfl⟩
  exact key _ _ h2 (fun x h => h) (fun y h => h) hr
 by_cases o1 : a.fOp = 1
 ·rw [ZyS ha o1, ZyS hb (h1.symm.trans o1)]; exact ⟨rfl, rfl⟩
 ·by_cases o4 : a.fOp = 4
  ·obtain ⟨g1, g2⟩ := go (h6 o4); rw [g1, g2]; exact ⟨rfl, rfl⟩
  ·obtain ⟨g1, g2⟩ := go (h5 o1 o4).2; rw [g1, g2]; exact ⟨rfl, rfl⟩

def fnd (x : ByteArray) : List Ze → Option Za
 | [] => none
 | b :: s => if b.fName = x then some b.fType else fnd x s
theorem Zub (s : List Ze) (x : ByteArray) : ∀ (l : List Ze) (k : Nat), Zat s x k l = some (match fnd x l with | some u => (u, true) | none => (zty, false))
 | [], k => by rw [Zat]; rfl
 | p :: l, k => by
  rw [Zat, ZkU, fnd]
  by_cases h : p.fName = x
  ·rw [decide_eq_true h, ifT, if_pos h]
  ·rw [decide_eq_false h, ifF, if_neg h, Zub s x l (k + 1)]
theorem Zqe (s : List Ze) (x : ByteArray) : ZaI s x = some (match fnd x s with | some u => (u, true) | none => (zty, false)) := by rw [ZaI, Zub]
theorem Zip {x : ByteArray} {u : Za} : ∀ {s : List Ze}, fnd x s = some u → ∃ b ∈ s, b.fType = u ∧ b.fName = x
 | b :: s, h => by
  rw [fnd] at h
  split at h
  ·rename_i he; injection h with h; exact ⟨b, by simp, h, he⟩
  ·obtain ⟨c, h1, h2⟩ := Zip h; exact ⟨c, by simp [h1], h2⟩
def TH (s : List Ze) : ST → Za
 | .v x => match fnd x s with | some u => u | none => (ST.v x).ty
 | .k x => (ST.k x).ty
 | .a f y => Za.mk 3 (ByteArray.mk #[]) (Zi.mk []) [TH s f, TH s y]
def okB (s : List Ze) : Bool := s.all fun b => Zhk b.fName && (ZfH b.fType == 0)
def Zpq (s : List Ze) : Prop := ∀ b ∈ s, b.fName.size ≤ 1048576 ∧ b.fType.vol ≤ 1048576
theorem Zmv {s : List Ze} (h : okB s = true) {b : Ze} (hb : b ∈ s) : Zhk b.fName = true ∧ ZfH b.fType = 0 := by
 have := List.all_eq_true.1 h b hb
 simpa using this
theorem ZvA {t : Za} (h : ZfH t = 0) : t.fms = true ∧ t.nod ≤ 20000 ∧ t.gks ≤ 20000 ∧ t.dep ≤ 100 ∧ t.gkd ≤ 100 := by
 unfold ZfH at h
 split at h
 ·split at h
  ·cases h
  ·split at h
   ·cases h
   ·exact ⟨by assumption, by omega, by omega, by omega, by omega⟩
 ·cases h
theorem ZCQ {t : Za} (h : t.fms = true) (h1 : t.nod ≤ 20000) (h2 : t.gks ≤ 20000) (h3 : t.dep ≤ 100) (h4 : t.gkd ≤ 100) : ZfH t = 0 := by
 unfold ZfH; rw [if_pos h, if_neg (by omega), if_neg (by omega)]
theorem Zyk {s : List Ze} (hs : okB s = true) (t : ST) : (TH s t).nod ≤ 20000 * t.nod := by
 induction t with
 | v x =>
  rw [TH]
  cases h : fnd x s with
  | some u => obtain ⟨b, h1, rfl, _⟩ := Zip h; have := (ZvA (Zmv hs h1).2).2.1; simp [ST.nod]; exact this
  | none => show (ST.v x).ty.nod ≤ _; rw [Zhb]; simp [ST.nod]
 | k x => rw [TH, Zhb]; simp [ST.nod]
 | a f y ihf ihy =>
  rw [TH, Zgu]
  show 1 + Za.nods [TH s f, TH s y] ≤ _
  rw [ZcC, ZcC]
  show 1 + ((TH s f).nod + ((TH s y).nod + 0)) ≤ 20000 * (1 + f.nod + y.nod)
  omega
theorem Zwu {s : List Ze} (hs : okB s = true) (t : ST) : (TH s t).nk = true := by
 induction t with
 | v x =>
  rw [TH]
  cases h : fnd x s with
  | some u => obtain ⟨b, h1, rfl, _⟩ := Zip h; exact ZDl _ (ZvA (Zmv hs h1).2).1
  | none => rfl
 | k x => rfl
 | a f y ihf ihy => rw [TH, Zwj]; show (true && Za.nks [TH s f, TH s y]) = true; rw [ZvL]; rfl; intro k hk; simp at hk; rcases hk with rfl | rfl; exact ihf; exact ihy
theorem ZCA {s : List Ze} (hs : okB s = true) (t : ST) (ht : t.nms = true) : (TH s t).fms = true := by
 induction t with
 | v x =>
  rw [TH]
  cases h : fnd x s with
  | some u => obtain ⟨b, h1, rfl, _⟩ := Zip h; exact (ZvA (Zmv hs h1).2).1
  | none => exact Zrc _ ht
 | k x => exact Zrc _ ht
 | a f y ihf ihy =>
  simp only [ST.nms, Bool.and_eq_true] at ht
  rw [TH, Zo3]
  show (Za.fmss [TH s f, TH s y] && true) = true
  rw [ZfO, ZfO, ihf ht.1, ihy ht.2]; rfl
theorem ZBF {s : List Ze} (hs : okB s = true) (t : ST) : (TH s t).gks ≤ 20000 ∧ (TH s t).gkd ≤ 100 := by
 have k1 : (Zi.mk []).nod = 1 := by decide
 have k2 : (Zi.mk []).dep = 1 := by decide
 induction t with
 | v x =>
  rw [TH]
  cases h : fnd x s with
  | some u => obtain ⟨b, h1, rfl, _⟩ := Zip h; have := ZvA (Zmv hs h1).2; exact ⟨this.2.2.1, this.2.2.2.2⟩
  | none => show (ST.v x).ty.gks ≤ _ ∧ (ST.v x).ty.gkd ≤ _; rw [Zrg, Zp8]; omega
 | k x => rw [TH, Zrg, Zp8]; omega
 | a f y ihf ihy =>
  rw [TH, Ztv, ZvN]
  show max (Zi.mk []).nod (Za.gkss [TH s f, TH s y]) ≤ _ ∧ max (Zi.mk []).dep (Za.gkds [TH s f, TH s y]) ≤ _
  rw [ZhB, ZhB, Ziy, Ziy, k1, k2]
  show max 1 (max _ (max _ 0)) ≤ _ ∧ max 1 (max _ (max _ 0)) ≤ _
  omega
theorem ZDI {s : List Ze} (hs : Zpq s) (t : ST) (ht : t.nms = true) : (TH s t).nmx ≤ 1048576 := by
 induction t with
 | v x =>
  rw [TH]
  cases h : fnd x s with
  | some u => obtain ⟨b, h1, rfl, _⟩ := Zip h; exact Nat.le_trans (Zoq _) (hs b h1).2
  | none => exact ZoS _ ht
 | k x => exact ZoS _ ht
 | a f y ihf ihy =>
  simp only [ST.nms, Bool.and_eq_true] at ht
  rw [TH, Znn]
  show max 0 (Za.nmxs [TH s f, TH s y]) ≤ _
  rw [ZfM, ZfM]
  show max 0 (max _ (max _ 0)) ≤ _
  have := ihf ht.1; have := ihy ht.2
  omega
theorem ZDi (t : Za) : ∀ N K : Nat, t.nmx ≤ N → t.gks ≤ K → t.vol ≤ t.nod * (1 + N + K) := by
 refine Za.ind (M := fun t => ∀ N K : Nat, t.nmx ≤ N → t.gks ≤ K → t.vol ≤ t.nod * (1 + N + K)) (fun t ih N K h1 h2 => ?_) t
 rw [Znn] at h1
 rw [Ztv] at h2
 rw [Znw, Zgu, Nat.add_mul]
 have key : ∀ l : List Za, (∀ k ∈ l, k ∈ t.fKids) → Za.nmxs l ≤ N → Za.gkss l ≤ K → Za.vols l ≤ Za.nods l * (1 + N + K) := fun l => by
  induction l with
  | nil => intro _ _ _; exact Nat.zero_le _
  | cons x l ihl =>
   intro hm g1 g2
   rw [ZfM] at g1
   rw [ZhB] at g2
   rw [Zhu, ZcC, Nat.add_mul]
   have := ih x (hm x (by simp)) N K (by omega) (by omega)
   have := ihl (fun k hk => hm k (by simp [hk])) (by omega) (by omega)
   omega
 have := key t.fKids (fun k h => h) (by omega) (by omega)
 omega
theorem ZCC {s : List Ze} (hs : okB s = true) (t : ST) : t.nod ≤ 20000 → ZM s [] t.ty = some ((((TH s t).nod : Nat) : Int), (((TH s t).dep : Nat) : Int)) := by
 induction t with
 | v x =>
  intro hb
  rw [ST.ty, ZM]
  show ((if true = true then (Za0 [] x >>= fun r => some (!r)) else some false) >>= _) = _
  rw [Zy4, Za0, ZwU, Zm, Zm]
  show (ZaI s x >>= _) = _
  rw [Zqe, Zm, TH]
  cases h : fnd x s with
  | some u =>
   obtain ⟨b, h1, rfl, _⟩ := Zip h
   have hg := (ZvA (Zmv hs h1).2).2.1
   show (Zai b.fType >>= fun r61 => Zaf b.fType >>= fun r62 => some (r61, r62)) = _
   rw [ZqS _ (by have : BIG = 1000000000000 := rfl; omega), Zm, ZnM _ (by have : BIG = 1000000000000 := rfl; omega), Zm]
  | none =>
   show ZH _ [] _ = _
   rw [ZH]
   show ZG _ [] _ = _
   rw [ZG]
   show Zw _ [] 1 0 0 _ [] = _
   rw [Zw]
   show _ = some ((((ST.v x).ty.nod : Nat) : Int), (((ST.v x).ty.dep : Nat) : Int))
   rw [Zhb, Znp]; rfl
 | k x =>
  intro hb
  rw [TH, Zhb, Znp, ST.ty, ZM]
  show ZH _ [] _ = _
  rw [ZH]
  show ZG _ [] _ = _
  rw [ZG]
  show Zw _ [] 1 0 0 _ [] = _
  rw [Zw]; rfl
 | a f x ihf ihx =>
  intro hb
  rw [ST.nod] at hb
  have e1 := Zyk hs f
  have e2 := Zyk hs x
  have d1 := Zmq (TH s f)
  have d2 := Zmq (TH s x)
  have n0 : (TH s (.a f x)).nod = 1 + (TH s f).nod + (TH s x).nod := by rw [TH, Zgu]; show 1 + Za.nods [TH s f, TH s x] = _; rw [ZcC, ZcC]; show 1 + ((TH s f).nod + ((TH s x).nod + 0)) = _; omega
  have d0 : (TH s (.a f x)).dep = max (TH s f).dep (TH s x).dep + 1 := by rw [TH, Zk5]; show Za.deps [TH s f, TH s x] + 1 = _; rw [Ze6, Ze6]; show max _ (max _ 0) + 1 = _; omega
  rw [n0, d0, ST.ty, ZM]
  show ZH _ [] _ = _
  rw [ZH]
  show ZG _ [] _ = _
  rw [ZG]
  show Zw _ [] 1 0 0 _ [f.ty, x.ty] = _
  rw [Zw, ihf (by omega), Zm, Zw, ihx (by omega), Zm, Zw]
  have z0 := Zfe (TH s f).dep 0
  rw [Int.natCast_zero, Nat.max_eq_right (Nat.zero_le _)] at z0
  show some (IntKind.i64.wrap (IntKind.i64.wrap (1 + (((TH s f).nod : Nat) : Int)) + (((TH s x).nod : Nat) : Int)), IntKind.i64.wrap ((if (((TH s x).dep : Nat) : Int) > (if (((TH s f).dep : Nat) : Int) > 0 then (((TH s f).dep : Nat) : Int) else 0) then (((TH s x).dep : Nat) : Int) else (if (((TH s f).dep : Nat) : Int) > 0 then (((TH s f).dep : Nat) : Int) else 0)) + 1)) = _
  have w1 : IntKind.i64.wrap (1 + (((TH s f).nod : Nat) : Int)) = 1 + (((TH s f).nod : Nat) : Int) := w64 (by omega) (by omega)
  rw [z0, Zfe, w1, w64 (by omega) (by omega), w64 (by omega) (by omega)]
  refine congrArg some (Prod.ext ?_ ?_)
  ·show _ = ((1 + (TH s f).nod + (TH s x).nod : Nat) : Int); omega
  ·show _ = ((max (TH s f).dep (TH s x).dep + 1 : Nat) : Int); omega
theorem ZFE (s : List Ze) (t : ST) : ZB s t.ty = some (TH s t) := by
 induction t with
 | v x =>
  rw [ST.ty, ZB]
  show (ZaI s x >>= _) = _
  rw [Zqe, Zm, TH]
  cases h : fnd x s <;> rfl
 | k x => rw [ST.ty, ZB]; rfl
 | a f x ihf ihx =>
  rw [ST.ty, ZB]
  show ((some x.ty) >>= fun ZCZ => (some f.ty) >>= fun ZCD => ZB s ZCD >>= fun ZEc => ZB s ZCZ >>= fun ZDt => Zc4 ZEc ZDt >>= fun ZCv => some ZCv) = _
  rw [Zm, Zm, ihf, Zm, ihx, Zm]; rfl
def ZoH (u : Za) : Bool := decide (20000 < u.nod) || decide (100 < u.dep)
def Zrt (s : List Ze) (t : ST) : Za := if okB s = true then (if ZoH (TH s t) = true then zty else TH s t) else zty
theorem ZwA (M : List Ze) (t : ST) (ht : t.good) (hM : Zpq M) : ∀ (l : List Ze) (k : Nat), (∀ b ∈ l, b ∈ M) → (okB M = true ∨ okB l = false) → ZW M k t.ty l = some (if okB l = true then Zrt M t else zty)
 | [], k, _, hok => by
  have hs : okB M = true := hok.resolve_right (by simp [okB])
  have hb := ZcN.1 ht.2
  rw [ZW, ZCC hs t (by omega), Zm, ZA2]
  have e : okB [] = true := rfl
  rw [e, ifT]
  unfold Zrt
  rw [hs, ifT]
  show (if ZoH (TH M t) = true then _ else _) = _
  cases ZoH (TH M t) with
  | true => rfl
  | false => rw [ifF, ifF, ZFE, Zm]
 | p :: l, k, hm, hok => by
  have hp := hM p (hm p (by simp))
  rw [ZW, Zxj _ (by omega), Zm]
  have e : okB (p :: l) = ((Zhk p.fName && (ZfH p.fType == 0)) && okB l) := by simp [okB]
  rw [e] at hok ⊢
  cases hv : Zhk p.fName with
  | false => rfl
  | true =>
   show ((Zag p.fType >>= _) >>= _) = _
   rw [ZpR _ (by omega), Zm, Zm]
   by_cases hc : ZfH p.fType = 0
   ·have e2 : (ZfH p.fType == 0) = true := by rw [hc]; rfl
    have e3 : (ZfH p.fType != 0) = false := by rw [bne, e2]; rfl
    rw [e3, ifF, e2, Bool.true_and, Bool.true_and]
    rw [hv, e2, Bool.true_and, Bool.true_and] at hok
    exact ZwA M t ht hM l (k + 1) (fun b hb => hm b (by simp [hb])) hok
   ·have e2 : (ZfH p.fType == 0) = false := by rw [beq_eq_false_iff_ne]; exact hc
    have e3 : (ZfH p.fType != 0) = true := by rw [bne, e2]; rfl
    rw [e3, ifT, e2]; rfl
theorem ZyR (s : List Ze) (hs : Zpq s) (t : ST) (ht : t.good) : Z7 s t.ty = some (Zrt s t) := by
 rw [Z7, ZvC t ht, Zm]
 show ZW s 0 t.ty s = _
 have h : okB s = true ∨ okB s = false := by cases okB s <;> simp
 rw [ZwA s t ht hs s 0 (fun b h => h) h]
 unfold Zrt
 cases okB s <;> rfl
def RT (s : List Ze) (p q : ST) : Prop := (TH s p).ar (TH s q) [] []
theorem ZBv {s : List Ze} {v : ByteArray} (t : ST) : t.occ v = true → (TH s (.v v)).nod ≤ (TH s t).nod ∧ (t ≠ .v v → (TH s (.v v)).nod < (TH s t).nod) := by
 induction t with
 | v x =>
  intro h
  have : x = v := by simpa [ST.occ] using h
  subst this
  exact ⟨Nat.le_refl _, fun h => absurd rfl h⟩
 | k x => intro h; cases h
 | a f x ihf ihx =>
  intro h
  have n0 : (TH s (.a f x)).nod = 1 + (TH s f).nod + (TH s x).nod := by rw [TH, Zgu]; show 1 + Za.nods [TH s f, TH s x] = _; rw [ZcC, ZcC]; show 1 + ((TH s f).nod + ((TH s x).nod + 0)) = _; omega
  simp only [ST.occ, Bool.or_eq_true] at h
  rw [n0]
  rcases h with h | h
  ·have := (ihf h).1; exact ⟨by omega, fun _ => by omega⟩
  ·have := (ihx h).1; exact ⟨by omega, fun _ => by omega⟩
theorem ZFF {s : List Ze} (hs : okB s = true) : UC (RT s) where
 refl p := ZBn _ _
 symm p q h := ZBj _ _ _ _ h
 trans p q r h k := ZAA _ _ _ _ _ _ h k
 app f g x y h k := by
  unfold RT
  rw [TH, TH, ZnY]
  exact ⟨rfl, rfl, rfl, fun h => (by cases h), fun _ _ => ⟨rfl, (Ze2 ..).2 ⟨_, _, rfl, h, (Ze2 ..).2 ⟨_, _, rfl, k, ZnP _ _ _⟩⟩⟩, fun h => (by cases h)⟩
 inv f g x y h := by
  unfold RT at h
  rw [TH, TH, ZnY] at h
  obtain ⟨y1, t1, e1, h1, h2⟩ := (Ze2 ..).1 (h.2.2.2.2.1 (by show (3 : Int) ≠ 1; decide) (by show (3 : Int) ≠ 4; decide)).2
  injection e1 with e1 e2
  subst e1 e2
  obtain ⟨y2, t2, e3, h3, _⟩ := (Ze2 ..).1 h2
  injection e3 with e3 _
  subst e3
  exact ⟨h1, h3⟩
 kk p q h := by
  unfold RT at h
  rw [TH, TH, ZnY] at h
  exact (h.2.2.2.2.1 (by show (2 : Int) ≠ 1; decide) (by show (2 : Int) ≠ 4; decide)).1
 ka p f x h := by
  unfold RT at h
  rw [TH, TH, ZnY] at h
  have : (2 : Int) = 3 := h.1
  cases this
 occ v t hne ho h := by
  have h1 := (ZwB _ _ _ _ (Zwu hs _) (Zwu hs _) h).1
  have h2 := (ZBv (s := s) t ho).2 hne
  omega

theorem Zrj (l : List ByteArray) (v : ByteArray) : Za0 l v = some (l.contains v) := by rw [Za0, ZwU]
theorem ZCp (l : List ByteArray) (v : ByteArray) (h : l.length ≤ 1000000000000) : ∃ r, Zcr l v = some r ∧ r.length ≤ l.length + 1 := by
 rw [Zcr, Zrj, Zm]
 cases l.contains v with
 | true => exact ⟨l, rfl, by omega⟩
 | false =>
  rw [ifF]
  have g : ZK ((l.length + ([v]).length) * 16 ≤ 140737488355328) = some () := gd _ (by simp; omega)
  rw [g, Zm]
  exact ⟨_, rfl, by simp⟩
theorem ZyF (t : Za) (B : List ByteArray) : ∀ (xs : List Za) (i : Nat) (out : List ByteArray), (∀ x ∈ xs, ∀ out : List ByteArray, out.length + x.nod ≤ 1000000000000 → ∃ r, Zac out B x = some r ∧ r.length ≤ out.length + x.nod) →
  out.length + Za.nods xs ≤ 1000000000000 → ∃ r, ZaS out B i t xs = some r ∧ r.length ≤ out.length + Za.nods xs
 | [], i, out, _, _ => by rw [ZaS]; exact ⟨out, rfl, by omega⟩
 | x :: xs, i, out, h, hl => by
  rw [ZcC] at hl ⊢
  obtain ⟨r, h1, h2⟩ := h x (by simp) out (by omega)
  rw [ZaS, h1, Zm]
  obtain ⟨r2, h3, h4⟩ := ZyF t B xs (i + 1) r (fun y hy => h y (by simp [hy])) (by omega)
  exact ⟨r2, h3, by omega⟩
theorem ZqR {k : Za} : ∀ {l : List Za}, k ∈ l → k.nod ≤ Za.nods l
 | x :: l, h => by
  rw [ZcC]
  rcases List.mem_cons.1 h with rfl | h
  ·omega
  ·have := ZqR h; omega
theorem ZEz (t : Za) : ∀ (out B : List ByteArray), B.length + t.dep ≤ 1000000000 → out.length + t.nod ≤ 1000000000000 → ∃ r, Zac out B t = some r ∧ r.length ≤ out.length + t.nod := by
 refine Za.ind (M := fun t => ∀ (out B : List ByteArray), B.length + t.dep ≤ 1000000000 → out.length + t.nod ≤ 1000000000000 → ∃ r, Zac out B t = some r ∧ r.length ≤ out.length + t.nod) (fun t ih out B hB ho => ?_) t
 rw [Zk5] at hB
 rw [Zgu] at ho ⊢
 have go : ∀ B' : List ByteArray, B'.length + Za.deps t.fKids ≤ 1000000000 → ∃ r, ZaB out B' t = some r ∧ r.length ≤ out.length + (1 + Za.nods t.fKids) := fun B' hB' => by
  rw [ZaB]
  obtain ⟨r, h1, h2⟩ := ZyF t B' t.fKids 0 out (fun x hx o ho => ih x hx o B' (by have := ZkE hx; omega) ho) (by omega)
  exact ⟨r, h1, by omega⟩
 rw [Zac]
 have rest : ∃ r, (if (t.fOp == 4) = true then ZK ((0 + B.length) * 16 ≤ 140737488355328) >>= fun _ => ZK ((B.length + ([t.fName]).length) * 16 ≤ 140737488355328) >>= fun _ => ZaB out (B ++ ([t.fName])) t else ZaB out B t) = some r ∧ r.length ≤ out.length + (1 + Za.nods t.fKids) := by
  cases t.fOp == 4 with
  | true =>
   rw [ifT]
   have g1 : ZK ((0 + B.length) * 16 ≤ 140737488355328) = some () := gd _ (by omega)
   have g2 : ZK ((B.length + ([t.fName]).length) * 16 ≤ 140737488355328) = some () := gd _ (by simp; omega)
   rw [g1, Zm, g2, Zm]
   exact go _ (by simp; omega)
  | false => rw [ifF]; exact go _ (by omega)
 cases t.fOp == 1 with
 | true =>
  rw [ifT, Zrj, Zm, Zm]
  cases B.contains t.fName with
  | true => exact rest
  | false =>
   rw [Bool.not_false, ifT]
   obtain ⟨r, h1, h2⟩ := ZCp out t.fName (by omega)
   rw [h1, Zm]
   exact ⟨r, rfl, by omega⟩
 | false => exact rest
theorem ZyQ (s : List Ze) (B : List ByteArray) (t : Za) : ∀ (xs : List Za) (i : Nat) (n d : Int), (∀ x ∈ xs, ∃ r, ZM s B x = some r) → ∃ r, Zw s B n d i t xs = some r
 | [], i, n, d, _ => by rw [Zw]; exact ⟨_, rfl⟩
 | x :: xs, i, n, d, h => by
  obtain ⟨r, h1⟩ := h x (by simp)
  rw [Zw, h1, Zm]
  exact ZyQ s B t xs (i + 1) _ _ fun y hy => h y (by simp [hy])
theorem ZGz {s : List Ze} (hs : ∀ b ∈ s, b.fType.nod ≤ 20000) (t : Za) : ∀ B : List ByteArray, B.length + t.dep ≤ 1000000000 → ∃ r, ZM s B t = some r := by
 refine Za.ind (M := fun t => ∀ B : List ByteArray, B.length + t.dep ≤ 1000000000 → ∃ r, ZM s B t = some r) (fun t ih B hB => ?_) t
 rw [Zk5] at hB
 have go : ∀ B' : List ByteArray, B'.length + Za.deps t.fKids ≤ 1000000000 → ∃ r, ZG s B' t = some r := fun B' hB' => by
  rw [ZG]
  exact ZyQ s B' t t.fKids 0 _ _ fun x hx => ih x hx B' (by have := ZkE hx; omega)
 have k1 : ∃ r, ZH s B t = some r := by
  rw [ZH]
  cases t.fOp == 4 with
  | true =>
   rw [ifT]
   have g1 : ZK ((0 + B.length) * 16 ≤ 140737488355328) = some () := gd _ (by omega)
   have g2 : ZK ((B.length + ([t.fName]).length) * 16 ≤ 140737488355328) = some () := gd _ (by simp; omega)
   rw [g1, Zm, g2, Zm]
   exact go _ (by simp; omega)
  | false => rw [ifF]; exact go _ (by omega)
 rw [ZM]
 cases t.fOp == 1 with
 | true =>
  rw [ifT, Zrj, Zm, Zm]
  cases B.contains t.fName with
  | true => exact k1
  | false =>
   rw [Bool.not_false, ifT, Zqe, Zm]
   cases h : fnd t.fName s with
   | none => exact k1
   | some u =>
    obtain ⟨b, h1, rfl, _⟩ := Zip h
    have := hs b h1
    show ∃ r, (Zai b.fType >>= fun r61 => Zaf b.fType >>= fun r62 => some (r61, r62)) = some r
    rw [ZqS _ (by have : BIG = 1000000000000 := rfl; omega), Zm, ZnM _ (by have : BIG = 1000000000000 := rfl; omega), Zm]
    exact ⟨_, rfl⟩
 | false => exact k1
theorem Zyc {m n : Int} (hm : Zj2 m) (hn : Zj2 n) (h : ZnF m = ZnF n) : m = n := by
 have h1 := Zo9 hm
 have h2 := Zo9 hn
 have e : Lib.itoa m = Lib.itoa n := by rw [← Zkn, ← Zkn, h]
 rw [e] at h1
 rw [h1] at h2
 injection h2 with h2
theorem ZAQ {a b c : ByteArray} (h : a ++ b = a ++ c) : b = c := by
 apply Ze5
 have : (a ++ b).data.toList = (a ++ c).data.toList := by rw [h]
 rw [Zi3, Zi3] at this
 exact List.append_cancel_left this
theorem Zz7 {b : ByteArray} (hb : Zhh b = true) {m n : Nat} (hm : m ≤ 9223372036854775807) (hn : n ≤ 9223372036854775807) (h : Zjn b ((m : Nat) : Int) = Zjn b ((n : Nat) : Int)) : m = n := by
 have e : ∀ k : Nat, (decide (((k : Nat) : Int) < 0) || !Zhh b) = false := fun k => by rw [hb]; simp
 unfold Zjn at h
 rw [e, e, ifF, ifF] at h
 have := Zyc (m := ((m : Nat) : Int)) (n := ((n : Nat) : Int)) ⟨by omega, by omega⟩ ⟨by omega, by omega⟩ (ZAQ h)
 omega
theorem ZzF (av : List ByteArray) {b : ByteArray} (hb : Zhh b = true) (hs : b.size ≤ 1000000000) : ∀ (n : Nat) (av' : List ByteArray) (k : Nat), av'.length ≤ n → (∀ j, k ≤ j → j ≤ 9000000000000000000 → Zjn b ((j : Nat) : Int) ∈ av → Zjn b ((j : Nat) : Int) ∈ av') → k + n ≤ 9000000000000000000 →
  ∃ r, ZaR av b k = some r
 | n, av', k, hl, hav, hk => by
  rw [ZaR, ZDo b _ hs ⟨by omega, by omega⟩, Zm, Zrj, Zm]
  cases hc : av.contains (Zjn b ((k : Nat) : Int)) with
  | false => rw [ifF, Zm]; exact ⟨_, rfl⟩
  | true =>
   have hm := hav k (Nat.le_refl _) (by omega) ((ZoD _ _).1 hc)
   have g : ZK (k + 1 ≤ 9223372036854775807) = some () := gd _ (by omega)
   rw [ifT, g, Zm]
   have hlt : (av'.filter fun x => decide (x ≠ Zjn b ((k : Nat) : Int))).length < av'.length := by
    rw [List.length_filter_lt_length_iff_exists]
    exact ⟨_, hm, by simp⟩
   match n, hl, hk with
   | 0, hl, hk => omega
   | n + 1, hl, hk =>
    refine ZzF av hb hs n (av'.filter fun x => decide (x ≠ Zjn b ((k : Nat) : Int))) (k + 1) (by omega) (fun j hj hj2 hja => ?_) (by omega)
    rw [List.mem_filter]
    refine ⟨hav j (by omega) hj2 hja, ?_⟩
    rw [decide_eq_true_eq]
    intro he
    have := Zz7 hb (by omega) (by omega) he
    omega
theorem Zx1 {s : ByteArray} (h : (Zfo s).2.2 = true) : Zhh (Zfo s).1 = true ∧ (Zfo s).1.size ≤ s.size := by
 unfold Zfo at h ⊢
 cases hp : spd s.data.toList with
 | none => rw [hp] at h; cases h
 | some p =>
  rw [hp] at h
  simp only at h ⊢
  by_cases hc : (Zhh (mkB p.1) && ZhW p.2) = true
  ·rw [if_pos hc]
   rw [Bool.and_eq_true] at hc
   refine ⟨hc.1, ?_⟩
   obtain ⟨c, _, hl⟩ := Zrw hp
   rw [← sz s, hl, ← sz (mkB p.1)]
   show p.1.length ≤ _
   simp
  ·rw [if_neg hc] at h; cases h
theorem ZAd {s : ByteArray} (h : Zhk s = true) (hb : (Zfo s).2.2 = false) : Zhh s = true := by
 unfold Zhk at h
 rw [if_neg (by rw [hb]; simp), Bool.and_eq_true, beq_iff_eq] at h
 unfold Zhh
 rw [← Zpn, h.1]
 simp
theorem ren_ok (s : ByteArray) (hv : Zhk s = true) (hs : s.size ≤ 1048576) (av : List ByteArray) (ha : av.length ≤ 1000000000000) : ∃ r, Zcs s av = some r := by
 rw [Zcs, Zu5 s (by omega), Zm]
 cases hb : (Zfo s).2.2 with
 | false =>
  rw [Bool.not_false, ifT, Zbk]
  exact ZzF av (ZAd hv hb) (by omega) av.length av 1 (Nat.le_refl _) (fun j _ _ h => h) (by omega)
 | true =>
  obtain ⟨h1, h2⟩ := Zx1 hb
  rw [Bool.not_true, ifF, Zbk]
  exact ZzF av h1 (by omega) av.length av 1 (Nat.le_refl _) (fun j _ _ h => h) (by omega)
def Zs8 (s : List Ze) : Prop := ∀ b ∈ s, b.fType.nod ≤ 20000
theorem ZtO {s : List Ze} (hs : Zs8 s) {b : Ze} (hb : b.fType.nod ≤ 20000) : Zs8 (s ++ [b]) := fun c hc => by
 rcases List.mem_append.1 hc with h | h
 ·exact hs c h
 ·rw [List.mem_singleton] at h; subst h; exact hb
theorem ZCj (s : List Ze) (hs : Zs8 s) (Zf0 : List ByteArray) (hr : Zf0.length ≤ 20000) (t x : Za) (hv : Zhk t.fName = true) (hn : t.fName.size ≤ 1048576) (ih : ∀ s', Zs8 s' → ∃ r, ZB s' x = some r) :
  ∀ (xs : List ByteArray) (i : Nat) (use : List Ze) (caught : List ByteArray), Zs8 use → use.length + xs.length ≤ 20000 → caught.length + 20000 * xs.length ≤ 1000000000 → ∃ r, Zam s Zf0 use caught i t x xs = some r
 | [], i, use, caught, hu, hl, hc => by
  rw [List.length_nil] at hl hc
  rw [Zam, Zrj, Zm]
  cases caught.contains t.fName with
  | false =>
   rw [ifF, ZbH]
   obtain ⟨r, h⟩ := ih use hu
   rw [h, Zm]; exact ⟨_, rfl⟩
  | true =>
   have g1 : ZK ((0 + Zf0.length) * 16 ≤ 140737488355328) = some () := gd _ (by omega)
   have g2 : ZK ((Zf0.length + caught.length) * 16 ≤ 140737488355328) = some () := gd _ (by omega)
   obtain ⟨r, h⟩ := ren_ok t.fName hv hn (Zf0 ++ caught) (by simp; omega)
   rw [ifT, g1, Zm, g2, Zm, h, Zm]
   show ∃ r', (some (Za.mk 1 r (Zi.mk []) []) >>= _) = some r'
   rw [Zm]
   have g3 : ZK ((use.length + ([(Ze.mk t.fName (Za.mk 1 r (Zi.mk []) []))]).length) * 88 ≤ 140737488355328) = some () := gd _ (by simp; omega)
   rw [g3, Zm, ZbH]
   obtain ⟨r2, h2⟩ := ih (use ++ [Ze.mk t.fName (Za.mk 1 r (Zi.mk []) [])]) (ZtO hu (by show (Za.mk 1 r (Zi.mk []) []).nod ≤ _; rw [Zgu]; show 1 + Za.nods [] ≤ _; rw [Za.nods]; omega))
   rw [h2, Zm]; exact ⟨_, rfl⟩
 | y :: xs, i, use, caught, hu, hl, hc => by
  rw [List.length_cons] at hl hc
  rw [Zam, Zqe, Zm]
  have skip : ∃ r, Zam s Zf0 use caught (i + 1) t x xs = some r := ZCj s hs Zf0 hr t x hv hn ih xs (i + 1) use caught hu (by omega) (by omega)
  cases h : fnd y s with
  | none => exact skip
  | some u =>
   obtain ⟨b, h1, rfl, _⟩ := Zip h
   have hb := hs b h1
   show ∃ r, (if (true && (!(y.toList == t.fName.toList))) = true then ZK ((use.length + ([(Ze.mk y b.fType)]).length) * 88 ≤ 140737488355328) >>= fun _ => Zac caught [] b.fType >>= fun Zyz => Zam s Zf0 (use ++ ([(Ze.mk y b.fType)])) Zyz (i + 1) t x xs else Zam s Zf0 use caught (i + 1) t x xs) = some r
   cases (true && (!(y.toList == t.fName.toList))) with
   | false => rw [ifF]; exact skip
   | true =>
    have g : ZK ((use.length + ([(Ze.mk y b.fType)]).length) * 88 ≤ 140737488355328) = some () := gd _ (by simp; omega)
    have hd := Zmq b.fType
    obtain ⟨c, h2, h3⟩ := ZEz b.fType caught [] (by simp; omega) (by omega)
    rw [ifT, g, Zm, h2, Zm]
    exact ZCj s hs Zf0 hr t x hv hn ih xs (i + 1) _ c (ZtO hu hb) (by simp; omega) (by omega)
theorem two {α : Type} {l : List α} (h : l.length = 2) : ∃ a b, l = [a, b] := by
 match l, h with
 | [a, b], _ => exact ⟨a, b, rfl⟩
theorem ZGq {α : Type} {l : List α} (h : l.length = 1) : ∃ a, l = [a] := by
 match l, h with
 | [a], _ => exact ⟨a, rfl⟩
theorem ZDC (t : Za) : t.fms = true → t.nmx ≤ 1048576 → t.nod ≤ 20000 → ∀ s, Zs8 s → ∃ r, ZB s t = some r := by
 refine Za.ind (M := fun t => t.fms = true → t.nmx ≤ 1048576 → t.nod ≤ 20000 → ∀ s, Zs8 s → ∃ r, ZB s t = some r) (fun t ih hf hm hn s hs => ?_) t
 rw [Zo3, Bool.and_eq_true] at hf
 rw [Znn] at hm
 rw [Zgu] at hn
 have kid : ∀ k ∈ t.fKids, ∀ s, Zs8 s → ∃ r, ZB s k = some r := fun k hk => ih k hk (Zrb hf.1 k hk) (by have := Zp3 hk; omega) (by have := ZqR hk; omega)
 have hok := hf.2
 unfold ZiW at hok
 rw [ZB]
 by_cases o1 : t.fOp = 1
 ·have e1 : (t.fOp == 1) = true := by rw [o1]; rfl
  rw [e1, ifT, Zqe, Zm]
  cases fnd t.fName s <;> exact ⟨_, rfl⟩
 ·have e1 : (t.fOp == 1) = false := by rw [beq_eq_false_iff_ne]; exact o1
  rw [e1, ifF]
  by_cases o3 : t.fOp = 3
  ·have e3 : (t.fOp == 3) = true := by rw [o3]; rfl
   rw [e3, ifT]
   rw [if_neg o1, if_neg (by rw [o3]; decide), if_pos o3, Bool.and_eq_true] at hok
   obtain ⟨f, x, hk⟩ := two (of_decide_eq_true hok.2)
   obtain ⟨r1, h1⟩ := kid f (by rw [hk]; simp) s hs
   obtain ⟨r2, h2⟩ := kid x (by rw [hk]; simp) s hs
   rw [hk]
   show ∃ r, ((some x) >>= fun ZxP => (some f) >>= fun ZxM => ZB s ZxM >>= fun ZAu => ZB s ZxP >>= fun ZAp => Zc4 ZAu ZAp >>= fun ZBC => some ZBC) = some r
   rw [Zm, Zm, h1, Zm, h2, Zm]
   exact ⟨_, rfl⟩
  ·have e3 : (t.fOp == 3) = false := by rw [beq_eq_false_iff_ne]; exact o3
   rw [e3, ifF]
   by_cases o4 : t.fOp = 4
   ·have e4 : (t.fOp == 4) = true := by rw [o4]; rfl
    rw [e4, ifT]
    rw [if_neg o1, if_neg (by rw [o4]; decide), if_neg o3, if_pos o4, Bool.and_eq_true] at hok
    obtain ⟨x, hk⟩ := ZGq (of_decide_eq_true hok.2)
    have hx : x ∈ t.fKids := by rw [hk]; simp
    have hxn := ZqR hx
    have hd := Zmq x
    obtain ⟨r1, h1, h2⟩ := ZEz x [] [] (by simp; omega) (by simp; omega)
    rw [List.length_nil] at h2
    have e : ixI t.fKids 0 = some x := by rw [hk]; rfl
    rw [e, Zm, h1, Zm]
    exact ZCj s hs r1 (by omega) t x hok.1 (by omega) (kid x hx) r1 0 [] [] (fun b hb => absurd hb List.not_mem_nil) (by simp; omega) (by simp; omega)
   ·have e4 : (t.fOp == 4) = false := by rw [beq_eq_false_iff_ne]; exact o4
    rw [e4, ifF]; exact ⟨_, rfl⟩
theorem ZwW (M : List Ze) (t : Za) (ht : ZfH t = 0) (hm : t.nmx ≤ 1048576) (hM : Zpq M) : ∀ (l : List Ze) (k : Nat), (∀ b ∈ l, b ∈ M) → (okB M = true ∨ okB l = false) → ∃ r, ZW M k t l = some r
 | [], k, _, hok => by
  have hs : okB M = true := hok.resolve_right (by simp [okB])
  have hc := ZvA ht
  have hf : Zs8 M := fun b hb => (ZvA (Zmv hs hb).2).2.1
  obtain ⟨r, h1⟩ := ZGz hf t [] (by simp; omega)
  rw [ZW, h1, Zm]
  cases decide (r.1 > 20000) || decide (r.2 > 100) with
  | true => exact ⟨_, rfl⟩
  | false =>
   rw [ifF]
   obtain ⟨r2, h2⟩ := ZDC t hc.1 hm hc.2.1 M hf
   rw [h2, Zm]; exact ⟨_, rfl⟩
 | p :: l, k, hmm, hok => by
  have hp := hM p (hmm p (by simp))
  rw [ZW, Zxj _ (by omega), Zm]
  have e : okB (p :: l) = ((Zhk p.fName && (ZfH p.fType == 0)) && okB l) := by simp [okB]
  rw [e] at hok
  cases hv : Zhk p.fName with
  | false => exact ⟨_, rfl⟩
  | true =>
   show ∃ r, ((Zag p.fType >>= _) >>= _) = some r
   rw [ZpR _ (by omega), Zm, Zm]
   by_cases hc : ZfH p.fType = 0
   ·have e2 : (ZfH p.fType == 0) = true := by rw [hc]; rfl
    have e3 : (ZfH p.fType != 0) = false := by rw [bne, e2]; rfl
    rw [e3, ifF]
    rw [hv, e2, Bool.true_and, Bool.true_and] at hok
    exact ZwW M t ht hm hM l (k + 1) (fun b hb => hmm b (by simp [hb])) hok
   ·have e2 : (ZfH p.fType == 0) = false := by rw [beq_eq_false_iff_ne]; exact hc
    have e3 : (ZfH p.fType != 0) = true := by rw [bne, e2]; rfl
    rw [e3, ifT]; exact ⟨_, rfl⟩
theorem ZBT (s : List Ze) (hs : Zpq s) (t : Za) (ht : t.vol ≤ 1048576) : ∃ r, Z7 s t = some r := by
 rw [Z7, ZpR t (by omega), Zm]
 by_cases hc : ZfH t = 0
 ·have e3 : (ZfH t != 0) = false := by rw [hc]; rfl
  rw [e3, ifF]
  have h : okB s = true ∨ okB s = false := by cases okB s <;> simp
  exact ZwW s t hc (Nat.le_trans (Zoq t) ht) hs s 0 (fun b h => h) h
 ·have e3 : (ZfH t != 0) = true := by rw [bne_iff_ne]; exact hc
  rw [e3, ifT]; exact ⟨_, rfl⟩

theorem ZAT (a b : ST) (ha : a.good) (hb : b.good) (hv : a.ty.vol + b.ty.vol ≤ 1048576) : ∃ (e : Int) (L : SB), Zbw a.ty b.ty = some (L.map toB, e) ∧ Zgx L ∧
  ∀ R : ST → ST → Prop, UC R → R a b → (e = 0 ∨ e = 3) ∧ ∀ p ∈ L, R (.v p.1) p.2 := by
 have hP : ∀ p ∈ [(a, b)], p.1.good ∧ p.2.good := fun p hp => by rw [List.mem_singleton] at hp; subst hp; exact ⟨ha, hb⟩
 have hV := Zr2 [(a, b)]
 have hvol : ZBa ([(a, b)].map toP) = a.ty.vol + b.ty.vol := by simp [ZBa, toP]
 have hu : unb (Zm1 [(a, b)]) [] ≤ (Zm1 [(a, b)]).length := List.length_filter_le _ _
 have hI : Inv (Zm1 [(a, b)]) [] [(a, b)] 1 :=
  ⟨fun p hp => absurd hp List.not_mem_nil, fun p hp => absurd hp List.not_mem_nil, fun p hp => absurd hp List.not_mem_nil, hP, fun p hp y hy => ZxX hp hy, fun y hy => ZzL hP hy, Zts (Nat.le_refl _),
   by omega, by rw [List.length_nil]; omega⟩
 obtain ⟨e, L, s', S', h1, h2, h3, A⟩ := ZvU (Zm1 [(a, b)]) _ _ [] [(a, b)] 1 rfl rfl hI
 refine ⟨e, L, ?_, A.good, fun R hR hab => A.gen R hR (fun p hp => absurd hp List.not_mem_nil) (fun p hp => by rw [List.mem_singleton] at hp; subst hp; exact hab)⟩
 rw [Zbw, ZBE _ (by simp) (fun p hp => by rw [List.mem_singleton] at hp; subst hp; exact ⟨by show a.ty.vol ≤ _; omega, by show b.ty.vol ≤ _; omega⟩)]
 have hs : [Zn.mk a.ty b.ty].all ZtH = true := by simp [ZtH, ZnU ha, ZnU hb]
 rw [if_pos hs]
 unfold ZD7
 rw [Zcp]
 show ((Zz (atL 0 []) (([] : SB).map toB) (stk [(a, b)]) >>= _) >>= _) = _
 rw [h1, Zm]
 show ((Zb9 s'.flist >>= _) >>= _) = _
 rw [h2, Zoo L A.len]; rfl
theorem Zxd {s : List Ze} {t : ST} (h : ((Zrt s t).fOp == 0) = false) : okB s = true ∧ ZoH (TH s t) = false ∧ Zrt s t = TH s t := by
 unfold Zrt at h ⊢
 cases ho : okB s with
 | false => rw [ho] at h; cases h
 | true =>
  rw [ho, ifT] at h
  cases hb : ZoH (TH s t) with
  | true => rw [hb, ifT] at h; cases h
  | false => exact ⟨rfl, rfl, rfl⟩
theorem Zxk {u : Za} (h : ZoH u = false) : u.nod ≤ 20000 ∧ u.dep ≤ 100 := by
 unfold ZoH at h
 simp only [Bool.or_eq_false_iff, decide_eq_false_iff_not] at h
 omega
theorem ZCM {s : List Ze} (hs : okB s = true) {t : ST} (ht : t.nms = true) (hb : ZoH (TH s t) = false) : ZfH (TH s t) = 0 := by
 obtain ⟨h1, h2⟩ := Zxk hb
 obtain ⟨h3, h4⟩ := ZBF hs t
 exact ZCQ (ZCA hs t ht) h1 h3 h2 h4
theorem ZuM {s : List Ze} (hs : okB s = true) (hz : Zpq s) {t : ST} (ht : t.nms = true) (hb : ZoH (TH s t) = false) : Zag (TH s t) = some 0 := by
 obtain ⟨h1, h2⟩ := Zxk hb
 obtain ⟨h3, h4⟩ := ZBF hs t
 have h5 := ZDI hz t ht
 have h6 := ZDi (TH s t) 1048576 20000 h5 h3
 rw [ZrA _ (by omega) ?_, ZCM hs ht hb]
 refine Nat.le_trans h6 ?_
 exact Nat.le_trans (Nat.mul_le_mul_right _ h1) (by decide)
theorem ZtV {s : List Ze} (hs : okB s = true) (hz : Zpq s) {p q : ST} (hp : p.nms = true) (hq : q.nms = true) (hb : ZoH (TH s p) = false) (hc : ZoH (TH s q) = false) :
  ∃ r, ZcD (TH s p) (TH s q) = some r ∧ (r = true ↔ RT s p q) := by
 obtain ⟨r, h1, h2⟩ := Zyi (TH s p) (TH s q) [] [] (by have := (Zxk hb).2; simp; omega) (by have := (Zxk hb).2; simp; omega)
 refine ⟨r, ?_, h2⟩
 rw [ZcD, ZuM hs hz hp hb, Zm, ZuM hs hz hq hc]
 show ((ZaF (TH s p) (TH s q) [] [] >>= fun r4 => some r4) >>= fun c5 => some c5) = _
 rw [h1]; rfl
theorem ZwO (s : List Ze) : ∀ (xs : List Ze) (l : List Za) (i : Nat), l.length + xs.length ≤ 1000000000 → Za1 s l i xs = some (l ++ xs.map (·.fType))
 | [], l, i, _ => by rw [Za1]; simp
 | x :: xs, l, i, h => by
  rw [List.length_cons] at h
  have g : ZK ((l.length + ([x.fType]).length) * 72 ≤ 140737488355328) = some () := gd _ (by simp; omega)
  rw [Za1, g, Zm, ZwO s xs _ (i + 1) (by simp; omega)]
  simp
theorem ZtI (a b : Za) (s : List Ze) (h : a.vol + b.vol ≤ 1048576) (hz : Zpq s) (hl : s.length ≤ 1048576) : Zbm a b s = some true := by
 obtain ⟨x, hx⟩ := ZBT s hz a (by omega)
 obtain ⟨y, hy⟩ := ZBT s hz b (by omega)
 obtain ⟨sm, hsm⟩ := ZyL (s.map (·.fType) ++ [a, b]) (fun t ht => by
  rcases List.mem_append.1 ht with ht | ht
  ·obtain ⟨c, hc, rfl⟩ := List.mem_map.1 ht; have := (hz c hc).2; omega
  ·simp at ht; rcases ht with rfl | rfl <;> omega)
 have ht : ZcX s = some (s.map (·.fType)) := by rw [ZcX, ZwO s s [] 0 (by simp; omega)]; rfl
 have g : ZK (((s.map (·.fType)).length + ([a, b]).length) * 72 ≤ 140737488355328) = some () := gd _ (by simp; omega)
 unfold Zbm
 rw [hx, Zm, hy, Zm, ht, Zm, g, Zm, hsm, Zm, ZHM]
 cases sm with
 | false => rfl
 | true =>
  rw [Bool.not_true, ifF, ZBK a (by omega), Zm, Zm]
  cases ha : ZnR a with
  | false => rfl
  | true =>
   rw [Bool.not_true, ifF, ZBK b (by omega), Zm, Zm]
   cases hb : ZnR b with
   | false => rfl
   | true =>
    obtain ⟨p, rfl, hp⟩ := ZzI (by omega) ha
    obtain ⟨q, rfl, hq⟩ := ZzI (by omega) hb
    rw [ZyR s hz p hp] at hx
    rw [ZyR s hz q hq] at hy
    injection hx with hx
    injection hy with hy
    subst hx hy
    rw [Bool.not_true, Bool.false_or]
    cases h1 : (Zrt s p).fOp == 0 with
    | true => rfl
    | false =>
     rw [Bool.false_or]
     cases h2 : (Zrt s q).fOp == 0 with
     | true => rfl
     | false =>
      obtain ⟨hs, b1, e1⟩ := Zxd h1
      obtain ⟨_, b2, e2⟩ := Zxd h2
      rw [ifF, e1, e2]
      obtain ⟨r, h3, h4⟩ := ZtV hs hz hp.1 hq.1 b1 b2
      rw [h3, Zm, Zm]
      cases r with
      | false => rfl
      | true =>
       rw [Bool.not_true, ifF]
       obtain ⟨e, L, h5, hG, h6⟩ := ZAT p q hp hq h
       have hU := ZFF hs
       obtain ⟨he, hL⟩ := h6 (RT s) hU (h4.1 rfl)
       rw [h5, Zm]
       rcases he with rfl | rfl
       ·show (Z7 (L.map toB) p.ty >>= _) = _
        rw [ZAx L hG p hp, Zm, Zop]
        cases hbig : (p.sub L).big with
        | true => rfl
        | false =>
         have e3 : ZjF L p = (p.sub L).ty := by unfold ZjF; rw [hbig, ifF]
         have hg2 : (p.sub L).good := ⟨ZnW hG p hp.1, hbig⟩
         have hR := hU.sub hL p
         obtain ⟨n1, n2⟩ := ZwB _ _ _ _ (Zwu hs _) (Zwu hs _) hR
         have b3 : ZoH (TH s (p.sub L)) = false := by unfold ZoH; rw [← n1, ← n2]; exact b1
         have e4 : Zrt s (p.sub L) = TH s (p.sub L) := by unfold Zrt; rw [hs, ifT, b3, ifF]
         rw [ifF, e3, ZyR s hz _ hg2, Zm, e4]
         obtain ⟨r2, h7, h8⟩ := ZtV hs hz hg2.1 hp.1 b3 b1
         rw [h7, Zm, h8.2 (hU.symm _ _ hR)]
         rfl
       ·rfl

theorem Zmy {t : Nat} {k : TK} {es : List E} (hk : (tab.ti t).k = k) (h1 : ∀ fs, k ≠ .struct fs) (h2 : ∀ e, k ≠ .slice e) : (t = 25 → ∃ v : Zi, es = v.cells) ∧ (t = 23 → ∃ l : List Zi, es = [.sl (l.map Zi.cells)]) :=
 ⟨fun ht => by subst ht; exact absurd hk.symm (h1 _), fun ht => by subst ht; exact absurd hk.symm (h2 _)⟩
theorem Zz9 {t : Nat} {es : List E} (h : Sh tab t es) : (t = 25 → ∃ v : Zi, es = v.cells) ∧ (t = 23 → ∃ l : List Zi, es = [.sl (l.map Zi.cells)]) := by
 induction h with
 | bool t b h => exact Zmy h (by simp) (by simp)
 | int t k n h hn => exact Zmy h (by simp) (by simp)
 | string t s h hs => exact Zmy h (by simp) (by simp)
 | array t n e parts h hl hf => exact Zmy h (by simp) (by simp)
 | slice t e rows h hl hr ih =>
  refine ⟨fun ht => (by subst ht; cases h), fun ht => ?_⟩
  subst ht
  have he : e = 25 := by injection h with h; exact h.symm
  subst he
  obtain ⟨l, rfl⟩ := Zoa (f := Zi.cells) rows fun row hm => by
   obtain ⟨i, hi, rfl⟩ := List.mem_iff_getElem.1 hm
   exact (ih i _ (List.getElem?_eq_getElem hi)).1 rfl
  exact ⟨l, rfl⟩
 | struct t fs parts h hl hf ih =>
  refine ⟨fun ht => ?_, fun ht => (by subst ht; cases h)⟩
  subst ht
  have he : fs = [(23, 0)] := by injection h with h; exact h.symm
  subst he
  obtain ⟨a, rfl⟩ := ZHH hl
  obtain ⟨l, rfl⟩ := (ih 0 23 0 a rfl rfl).2 rfl
  exact ⟨.mk l, by rw [Zi.cells_eq]; rfl⟩
theorem ZBA {es : List E} (h : Sh tab 25 es) : ∃ v : Zi, es = v.cells := (Zz9 h).1 rfl
theorem Zmr {t : Nat} {k : TK} {es : List E} (hk : (tab.ti t).k = k) (h1 : ∀ fs, k ≠ .struct fs) (h2 : ∀ e, k ≠ .slice e) : (t = 28 → ∃ v : Za, es = v.cells) ∧ (t = 26 → ∃ l : List Za, es = [.sl (l.map Za.cells)]) :=
 ⟨fun ht => by subst ht; exact absurd hk.symm (h1 _), fun ht => by subst ht; exact absurd hk.symm (h2 _)⟩
theorem ZyJ {t : Nat} {es : List E} (h : Sh tab t es) : (t = 28 → ∃ v : Za, es = v.cells) ∧ (t = 26 → ∃ l : List Za, es = [.sl (l.map Za.cells)]) := by
 induction h with
 | bool t b h => exact Zmr h (by simp) (by simp)
 | int t k n h hn => exact Zmr h (by simp) (by simp)
 | string t s h hs => exact Zmr h (by simp) (by simp)
 | array t n e parts h hl hf => exact Zmr h (by simp) (by simp)
 | slice t e rows h hl hr ih =>
  refine ⟨fun ht => (by subst ht; cases h), fun ht => ?_⟩
  subst ht
  have he : e = 28 := by injection h with h; exact h.symm
  subst he
  obtain ⟨l, rfl⟩ := Zoa (f := Za.cells) rows fun row hm => by
   obtain ⟨i, hi, rfl⟩ := List.mem_iff_getElem.1 hm
   exact (ih i _ (List.getElem?_eq_getElem hi)).1 rfl
  exact ⟨l, rfl⟩
 | struct t fs parts h hl hf ih =>
  refine ⟨fun ht => ?_, fun ht => (by subst ht; cases h)⟩
  subst ht
  have he : fs = [(22, 0), (9, 1), (25, 2), (26, 3)] := by injection h with h; exact h.symm
  subst he
  obtain ⟨a, b, c, d, rfl⟩ := ZGL hl
  obtain ⟨op, rfl, _⟩ := ZDn (hf 0 22 0 a rfl rfl) (k := .i64) rfl
  obtain ⟨name, rfl, _⟩ := Zr5 (hf 1 9 1 b rfl rfl) rfl
  obtain ⟨bd, rfl⟩ := ZBA (hf 2 25 2 c rfl rfl)
  obtain ⟨kids, rfl⟩ := (ih 3 26 3 d rfl rfl).2 rfl
  exact ⟨.mk op name bd kids, by rw [Za.cells_eq, Zi.cells_eq]; rfl⟩
theorem Zti {es : List E} (h : Sh tab 28 es) : ∃ v : Za, es = v.cells := (ZyJ h).1 rfl
theorem Zyf (k : Zi) : k.nod ≤ Zcf k.cells := by
 refine Zi.ind (M := fun k => k.nod ≤ Zcf k.cells) (fun v ih => ?_) k
 have key : ∀ l : List Zi, (∀ x ∈ l, x.nod ≤ Zcf x.cells) → Zi.nods l ≤ Zgz (l.map Zi.cells) := by
  intro l
  induction l with
  | nil => intro _; rw [Zi.nods]; exact Nat.zero_le _
  | cons x l ih2 =>
   intro h
   rw [ZgA, List.map_cons, Zgz]
   have h1 := h x (by simp)
   have h2 := ih2 fun y hy => h y (by simp [hy])
   omega
 have h1 := key _ ih
 rw [ZkG, Zi.cells_eq]
 simp only [Zcf, Zm4]
 omega
theorem Zqm : ∀ l : List Zi, Zi.nods l ≤ Zgz (l.map Zi.cells)
 | [] => by rw [Zi.nods]; exact Nat.zero_le _
 | x :: l => by
  rw [ZgA, List.map_cons, Zgz]
  have h1 := Zyf x
  have h2 := Zqm l
  omega
theorem ZoW (t : Za) : t.vol ≤ Zcf t.cells := by
 refine Za.ind (M := fun t => t.vol ≤ Zcf t.cells) (fun v ih => ?_) t
 have key : ∀ l : List Za, (∀ x ∈ l, x.vol ≤ Zcf x.cells) → Za.vols l ≤ Zgz (l.map Za.cells) := by
  intro l
  induction l with
  | nil => intro _; rw [Za.vols]; exact Nat.zero_le _
  | cons x l ih2 =>
   intro h
   rw [Zhu, List.map_cons, Zgz]
   have h1 := h x (by simp)
   have h2 := ih2 fun y hy => h y (by simp [hy])
   omega
 have h1 := key _ ih
 have h2 := Zqm v.fBound.fArgs
 rw [Znw, Za.cells_eq, ZkG]
 simp only [Zcf, Zm4]
 omega

theorem Zr9 {W : World} (h : Lib.TabIs Tryz.prog W "internal/strconv.uint64pow10" .u64 Lib.pow10Tab) : ∀ x ∈ Zoj, old W x.1 x.2.1 ∧ x.2.2 (W.cell? ⟨x.1, x.2.1, none⟩) := by
 have hg : Tryz.prog.globalNamed "internal/strconv.uint64pow10" = some 3 := by kernel_rfl
 unfold Lib.TabIs World.var? at h
 rw [hg] at h
 simp only [Option.bind_some] at h
 split at h
 case h_2 => cases h
 rename_i cs t f hc
 injection h with h
 have hlt : 3 < W.heap.size := by
  rcases Nat.lt_or_ge 3 W.heap.size with h1 | h1
  ·exact h1
  ·rw [Array.getElem?_eq_none h1] at hc; cases hc
 have hcell : ∀ i, W.cell? ⟨3, i, none⟩ = (Lib.pow10Tab[i]?).map fun z => Value.int .u64 z := fun i => by
  have e0 : ((Lib.pow10Tab.map fun z => Value.int .u64 z).toArray)[i]? = (Lib.pow10Tab.map fun z => Value.int .u64 z)[i]? := List.getElem?_toArray
  simp only [World.cell?, hc, Option.isSome_none, Bool.false_eq_true, if_false, h]
  rw [e0, List.getElem?_map]
 intro x hx
 rcases List.mem_cons.1 hx with rfl | hx
 ·refine ⟨hlt, ?_⟩
  show Zrl (W.cell? ⟨3, 20, none⟩)
  rw [hcell]; rfl
 ·obtain ⟨i, hi, rfl⟩ := List.mem_map.1 hx
  have hi := List.mem_range.1 hi
  refine ⟨hlt, ?_⟩
  show ZtG i (W.cell? ⟨3, i, none⟩)
  rw [hcell, Lib.pow10Tab, List.getElem?_map, List.getElem?_range hi]
  rfl
theorem tab_third {W : World} {a b : String × DataW Unit} {r : List (String × DataW Unit)} (h : laidMet Tryz.prog (a :: b :: ("internal/strconv.uint64pow10", Lib.tabData .u64 Lib.pow10Tab) :: r) W) : Lib.TabIs Tryz.prog W "internal/strconv.uint64pow10" .u64 Lib.pow10Tab :=
 Lib.tabIs_of_head (g := 3) (t := 154) (e := 139) (n := 20) (by kernel_rfl) (by kernel_rfl) (by kernel_rfl) (by kernel_rfl) (by kernel_rfl) (by kernel_rfl) h.tail.tail
theorem globs0 {W : World} (h : Lib.TabIs Tryz.prog W "internal/strconv.uint64pow10" .u64 Lib.pow10Tab) (hr : ZdB = []) : Zjr Tryz.prog W (old W) := fun x hx => Zr9 h x (by
 have hx : x ∈ Zoj ++ ZdB := hx
 rwa [hr, List.append_nil] at hx)

theorem ZvP {P : Program} {W : World} {sp : Nat → Bool} {fuel t : Nat} {ms : Array (String × TypeId)} {nm : String} {d : DataW Unit} {p : List MemPlace} (hi : P.underlying t = some (.interface ms)) :
  ∀ cs : List Value, DataW.trod (fun _ => ()) P W 0 sp false fuel t cs = some (.iface nm d, p) → ∃ u v, cs = [.iface u v] := by
 intro cs h
 cases fuel with
 | zero => simp [DataW.trod] at h
 | succ fuel =>
  unfold DataW.trod at h
  rw [hi] at h
  split at h <;> first | (cases h; done) | (simp at h; done) | exact ⟨_, _, rfl⟩ | simp_all
theorem Zt6 {P : Program} {n nm : String} {d : DataW Unit} {r : List (String × DataW Unit)} {W : World} {g ti : Nat} {ms : Array (String × TypeId)} (h : laidMet P ((n, .iface nm d) :: r) W) (hg : P.globalNamed n = some g)
  (ht : (P.globals[g]?).map (·.type) = some ti) (hi : P.underlying ti = some (.interface ms)) : ∃ u v, W.cell? ⟨g, 0, none⟩ = some (.iface u v) := by
 obtain ⟨ps, ⟨g', t, cs, fuel, p, q, h1, h2, h3, h4, h5, h6⟩, hn, hc⟩ := h
 obtain rfl := Option.some.inj (hg.symm.trans h1)
 obtain rfl := Option.some.inj (ht.symm.trans h2)
 obtain ⟨u, v, hcs⟩ := ZvP hi cs.toList h4
 have := World.var?_cell hg h3 0
 refine ⟨u, v, ?_⟩
 rw [this, ← Array.getElem?_toList, hcs]; rfl
theorem Zqs {W : World} {g : Nat} {v : Value} (h : W.cell? ⟨g, 0, none⟩ = some v) : g < W.heap.size := by
 unfold World.cell? at h
 rcases Nat.lt_or_ge g W.heap.size with h1 | h1
 ·exact h1
 ·simp only [Array.getElem?_eq_none h1] at h; cases h
theorem globs_full {W : World} {a b c : String × DataW Unit} {n1 n2 : String} {d1 d2 : DataW Unit} {r : List (String × DataW Unit)} (h : Lib.TabIs Tryz.prog W "internal/strconv.uint64pow10" .u64 Lib.pow10Tab) (hS : W.ShapedOpen Tryz.prog)
  (hL : laidMet Tryz.prog (a :: b :: c :: ("strconv.ErrRange", .iface n1 d1) :: ("strconv.ErrSyntax", .iface n2 d2) :: r) W) : Zjr Tryz.prog W (old W) := fun x hx => by
 have hx : x ∈ Zoj ++ ZdB := hx
 rcases List.mem_append.1 hx with hx | hx
 ·exact Zr9 h x hx
 ·unfold ZdB at hx
  simp only [List.mem_cons, List.not_mem_nil, or_false] at hx
  rcases hx with rfl | rfl | rfl
  ·obtain ⟨m, hm⟩ := cell_of_shapedOpen_int (zero := #[.int .i64 0]) (t := 3) hS (of_decide_eq_true (by kernel_rfl)) (by kernel_rfl) rfl (by kernel_rfl) (by kernel_rfl) Tryz.underlying3
   exact ⟨Zqs hm, m, hm⟩
  ·obtain ⟨u, v, he⟩ := Zt6 (g := 1) (ti := 114) hL.tail.tail.tail.tail (by kernel_rfl) (by kernel_rfl) Tryz.underlying114
   exact ⟨Zqs he, _, he, .inr ⟨u, v, rfl⟩⟩
  ·obtain ⟨u, v, he⟩ := Zt6 (g := 2) (ti := 114) hL.tail.tail.tail (by kernel_rfl) (by kernel_rfl) Tryz.underlying114
   exact ⟨Zqs he, _, he, .inr ⟨u, v, rfl⟩⟩

mutual
theorem Zp1 {H : Type} : ∀ d : DataW H, Rows.uptoBulk d = Zh2 d
 | .lit l => by cases l <;> simp [Rows.uptoBulk, Zh2]
 | .nil => by simp [Rows.uptoBulk, Zh2]
 | .ptr d => by simp [Rows.uptoBulk, Zh2, Zp1 d]
 | .slice es sp => by simp [Rows.uptoBulk, Zh2, Zlx es, Zlx sp]
 | .agg ps => by simp [Rows.uptoBulk, Zh2, Zlx ps]
 | .iface _ d => by simp [Rows.uptoBulk, Zh2, Zp1 d]
 | .map es => by simp [Rows.uptoBulk, Zh2, Zse es]
 | .held _ => by simp [Rows.uptoBulk, Zh2]
theorem Zlx {H : Type} : ∀ l : List (DataW H), Rows.uptoBulkAll l = bulks l
 | [] => by simp [Rows.uptoBulkAll, bulks]
 | d :: l => by simp [Rows.uptoBulkAll, bulks, Zp1 d, Zlx l]
theorem Zse {H : Type} : ∀ l : List (Lit × DataW H), Rows.uptoBulkEntries l = Zrm l
 | [] => by simp [Rows.uptoBulkEntries, Zrm]
 | x :: l => by simp [Rows.uptoBulkEntries, Zrm, Zzd x, Zse l]
theorem Zzd {H : Type} : ∀ x : Lit × DataW H, Rows.uptoBulkEntry x = ZzS x
 | (l, d) => by cases l <;> simp [Rows.uptoBulkEntry, ZzS, Zp1 d]
end
theorem upto_bulks {H : Type} {ds : List (DataW H)} (h : Rows.uptoSmall H ds = true) : bulks ds ≤ 1048576 := by
 have h := of_decide_eq_true h
 rwa [Zlx] at h

theorem ZA9 {es : List E} (h : Sh tab 45 es) : ∃ b : Ze, es = b.cells := by
 obtain ⟨parts, rfl, hl, hf⟩ := ZxT h (fs := [(9, 0), (28, 1)]) rfl
 obtain ⟨a, b, rfl⟩ := ZGm hl
 obtain ⟨name, rfl, _⟩ := Zr5 (hf 0 9 0 a rfl rfl) rfl
 obtain ⟨t, rfl⟩ := Zti (hf 1 28 1 b rfl rfl)
 exact ⟨.mk name t, by rw [Ze.cells_eq, Za.cells_eq]; rfl⟩
theorem ZAB {e : E} (h : Sh tab 31 [e]) : ∃ l : List Ze, e = .sl (l.map Ze.cells) := by
 obtain ⟨rows, h1, _, hr⟩ := ZAz h (e := 45) rfl
 obtain ⟨l, rfl⟩ := Zoa (f := Ze.cells) rows fun row hm => ZA9 (hr row hm)
 injection h1 with h1
 exact ⟨l, h1⟩
theorem ZqY : ∀ l : List Ze, l.length ≤ Zgz (l.map Ze.cells) ∧ ∀ b ∈ l, b.fName.size + b.fType.vol ≤ Zgz (l.map Ze.cells)
 | [] => ⟨Nat.zero_le _, fun b hb => absurd hb List.not_mem_nil⟩
 | p :: l => by
  have h1 := ZoW p.fType
  obtain ⟨h2, h3⟩ := ZqY l
  have e : p.cells = [.v (.string p.fName)] ++ p.fType.cells := by rw [Ze.cells_eq, Za.cells_eq]; rfl
  rw [List.map_cons, Zgz, e, ZhR]
  simp only [Zcf, Zm4, List.length_cons]
  refine ⟨by omega, fun b hb => ?_⟩
  rcases List.mem_cons.1 hb with rfl | hb
  ·omega
  ·have := h3 b hb; omega
theorem unifyGeneral_true {a b : List E} {c : E} (ha : Sh tab 28 a) (hb : Sh tab 28 b) (hc : Sh tab 31 [c]) (hB : Zcf a + Zcf b + Zcf [c] ≤ 1048576) : CallsA Tryz.prog 6 [.agg a, .agg b, .c none c] (fun r => r = .c none (.v (.bool true))) := by
 obtain ⟨a, rfl⟩ := Zti ha
 obtain ⟨b, rfl⟩ := Zti hb
 obtain ⟨l, rfl⟩ := ZAB hc
 have h1 := ZoW a
 have h2 := ZoW b
 obtain ⟨h3, h4⟩ := ZqY l
 simp only [Zcf, Zm4] at hB
 have h := ZiF a b l true (ZtI a b l (by omega) (fun x hx => by have := h4 x hx; omega) (by omega))
 unfold Zbm.M at h
 rw [Za.cells_eq, Za.cells_eq]
 exact Zk.mono h fun d b h => h.1

end Go.Proofs.YtgbglhbdjambbaaGreatDoor
