/- Part 7 of the proof: the program's functions as Lean functions with their walks, and the plain law. It holds for every input, without conditions. -/
import Derived.Lib.LaidTab
import Derived.Lib.ItoaNum
import Derived.KernelRfl
import Derived.Stop.LaidErr
import Derived.Test.YtgbglhbdjambbaaGreatDoorRows
import Derived.Test.YtgbglhbdjambbaaGreatDoorUvA
import Derived.Test.YtgbglhbdjambbaaGreatDoorUvB
import Derived.Test.YtgbglhbdjambbaaGreatDoorUvC
import Derived.Test.YtgbglhbdjambbaaGreatDoorUvD
import Derived.Test.YtgbglhbdjambbaaGreatDoorUvE
import Derived.Test.YtgbglhbdjambbaaGreatDoorUvF
set_option linter.unusedVariables false
set_option linter.unusedSimpArgs false
set_option maxRecDepth 100000
set_option maxHeartbeats 4000000
namespace Go.Proofs.YtgbglhbdjambbaaGreatDoor
open Go Go.Am
theorem Zm {α β : Type} (x : α) (f : α → Option β) : (some x >>= f) = f x := rfl
theorem Zdb {p : Prop} [Decidable p] {β : Type} (f : Unit → Option β) (h : p) : (Zac p >>= f) = f () := by unfold Zac; rw [if_pos h]; rfl
theorem Zfi {a b : ByteArray} (h : a.data.toList = b.data.toList) : a = b := by
 obtain ⟨⟨l⟩⟩ := a; obtain ⟨⟨k⟩⟩ := b
 simp only at h; rw [h]
theorem ZaL (s : ByteArray) : s.toList = s.data.toList := by
 have key : ∀ (n i : Nat) (r : List UInt8), s.size - i = n → ByteArray.toList.loop s i r = r.reverse ++ s.data.toList.drop i := by
  intro n
  induction n with
  | zero =>
   intro i r h
   rw [ByteArray.toList.loop, if_neg (by omega), List.drop_eq_nil_of_le (by show s.data.toList.length ≤ i; simp; have : s.data.size = s.size := rfl; omega), List.append_nil]
  | succ n ih =>
   intro i r h
   have hi : i < s.size := by omega
   rw [ByteArray.toList.loop, if_pos hi, ih (i + 1) _ (by omega)]
   have hd : s.data.toList.drop i = s.data.toList[i]'(by simpa using hi) :: s.data.toList.drop (i + 1) := (List.drop_eq_getElem_cons (by simpa using hi))
   rw [hd]
   have : s.get! i = s.data.toList[i]'(by simpa using hi) := by
    have hi' : i < s.data.size := hi
    show s.data[i]! = _
    rw [getElem!_pos s.data i hi']; simp
   rw [this]; simp
 show ByteArray.toList.loop s 0 [] = _
 rw [key _ 0 [] rfl]; simp
theorem ZdZ (s : ByteArray) (k : Nat) : btI s ((k : Nat) : Int) = s.data.toList[k]? := by
 unfold btI
 rw [if_pos (Int.natCast_nonneg k), Int.toNat_natCast]
 rcases Nat.lt_or_ge k s.size with h | h
 ·rw [getElem?_pos s k h, List.getElem?_eq_getElem (by simpa using h)]; rfl
 ·rw [getElem?_neg s k (by omega), List.getElem?_eq_none (by simpa using h)]
theorem sz (s : ByteArray) : s.data.toList.length = s.size := by simp
def ZgP (c : UInt8) : Bool := decide (65 ≤ c.toNat) && decide (c.toNat ≤ 90)
def Zgj (c : UInt8) : Bool := decide (97 ≤ c.toNat) && decide (c.toNat ≤ 122)
def ZfM (c : UInt8) : Bool := decide (48 ≤ c.toNat) && decide (c.toNat ≤ 57)
def wst (c : UInt8) : Bool := ZgP c || Zgj c || c.toNat == 95
def wch (c : UInt8) : Bool := wst c || ZfM c || c.toNat == 39
def ZtG : List UInt8 := [33, 35, 36, 37, 38, 42, 43, 46, 47, 60, 61, 62, 63, 64, 92, 94, 124, 45, 126, 58]
def Zsu (c : UInt8) : Bool := ZtG.contains c
theorem ZBM (c : UInt8) : ZdL ((c.toNat : Nat) : Int) = some (ZgP c) := by
 unfold ZdL ZgP; congr 2 <;> (apply decide_eq_decide.2; omega)
theorem ZAt (c : UInt8) : Zb4 ((c.toNat : Nat) : Int) = some (ZgP c) := by
 unfold Zb4 ZgP; congr 2 <;> (apply decide_eq_decide.2; omega)
theorem ZC6 (c : UInt8) : ZeA ((c.toNat : Nat) : Int) = some (ZfM c) := by
 unfold ZeA ZfM; congr 2 <;> (apply decide_eq_decide.2; omega)
theorem ZzK (c : UInt8) : Zco ((c.toNat : Nat) : Int) = some (ZfM c) := by
 unfold Zco ZfM; congr 2 <;> (apply decide_eq_decide.2; omega)
theorem Zdk (a b : Nat) : (((a : Nat) : Int) == ((b : Nat) : Int)) = (a == b) := by
 rw [Bool.eq_iff_iff]; simp; omega
theorem ZzU (c : UInt8) : ZdK ((c.toNat : Nat) : Int) = some (ZgP c || Zgj c) := by
 unfold ZdK
 rw [ZBM, Zm]
 unfold Zgj
 congr 3 <;> (apply decide_eq_decide.2; omega)
theorem ZzS (c : UInt8) : Zcs ((c.toNat : Nat) : Int) = some (Zgj c || c.toNat == 95) := by
 unfold Zcs Zgj
 rw [show (95 : Int) = ((95 : Nat) : Int) from rfl, Zdk]
 congr 3 <;> (apply decide_eq_decide.2; omega)
theorem ZhN {l : List UInt8} {k : Nat} {y : UInt8} (h : l[k]? = some y) : l.drop k = y :: l.drop (k + 1) := by
 obtain ⟨h1, h2⟩ := List.getElem?_eq_some_iff.1 h
 rw [List.drop_eq_getElem_cons h1, h2]
theorem ZxJ (s : ByteArray) (hs : s.size ≤ 1000000) : ∀ (d k : Nat), s.size - k = d → ZcC s k = some ((s.data.toList.drop k).all wch) := by
 intro d
 induction d with
 | zero =>
  intro k hk
  rw [ZcC, if_neg (by simp; omega), List.drop_eq_nil_of_le (by rw [sz]; omega)]; rfl
 | succ d ih =>
  intro k hk
  have hlt : k < s.size := by omega
  obtain ⟨y, hy⟩ : ∃ y, s.data.toList[k]? = some y := ⟨_, List.getElem?_eq_getElem (by rw [sz]; exact hlt)⟩
  rw [ZcC, if_pos (by simpa using hlt), ZdZ, hy, Zm, ZzU, Zm, ZC6, ZhN hy, List.all_cons]
  have h1 : (if (!(ZgP y || Zgj y)) = true then some (ZfM y) >>= fun r35 => some (!r35) else some false) = some (!(ZgP y || Zgj y) && !(ZfM y)) := by
   cases (ZgP y || Zgj y) <;> rfl
  rw [h1, Zm]
  have h2 : ((((!(ZgP y || Zgj y) && !(ZfM y)) && (((y.toNat : Nat) : Int) != 95)) && (((y.toNat : Nat) : Int) != 39)) = true) ↔ wch y = false := by
   unfold wch wst
   rw [show (((y.toNat : Nat) : Int) != 95) = !(y.toNat == 95) from by rw [bne, show (95 : Int) = ((95 : Nat) : Int) from rfl, Zdk], show (((y.toNat : Nat) : Int) != 39) = !(y.toNat == 39) from by rw [bne, show (39 : Int) = ((39 : Nat) : Int) from rfl, Zdk]]
   cases ZgP y <;> cases Zgj y <;> cases ZfM y <;> cases (y.toNat == 95) <;> cases (y.toNat == 39) <;> simp
  by_cases hw : wch y = false
  ·rw [if_pos (h2.2 hw), hw]; rfl
  ·rw [if_neg (fun h => hw (h2.1 h)), Zdb _ (by omega), ih (k + 1) (by omega)]
   simp only [Bool.not_eq_false] at hw
   rw [hw]; rfl
def ZgH (l : List UInt8) : Bool := match l with
 | [] => false
 | c :: r => decide (r.length < 64) && wst c && l.all wch
theorem Zg4 (c : UInt8) (r : List UInt8) : ZgH (c :: r) = (decide (r.length < 64) && wst c && (c :: r).all wch) := rfl
theorem ZlC (s : ByteArray) : (s.toList == (ByteArray.mk #[]).toList) = decide (s.size = 0) := by
 rw [Bool.eq_iff_iff]
 rw [beq_iff_eq, ZaL, ZaL, decide_eq_true_iff, ← sz]
 constructor
 ·intro h; rw [h]; rfl
 ·intro h; exact List.eq_nil_of_length_eq_zero h
theorem ZuA (s : ByteArray) : ZdU s = some (ZgH s.data.toList) := by
 unfold ZdU
 rw [ZlC]
 cases hl : s.data.toList with
 | nil =>
  have h0 : s.size = 0 := by rw [← sz, hl]; rfl
  rw [if_pos (by simp [h0])]; rfl
 | cons c r =>
  have h0 : s.size = r.length + 1 := by rw [← sz, hl]; rfl
  by_cases h64 : s.size > 64
  ·rw [if_pos (by simp; omega), Zm, if_pos rfl]
   rw [Zg4, show decide (r.length < 64) = false from decide_eq_false (by omega)]; rfl
  ·have hc : ¬ ((decide (s.size = 0) || decide (((s.size : Nat) : Int) > 64)) = true) := by rw [Bool.or_eq_true, decide_eq_true_iff, decide_eq_true_iff]; omega
   rw [if_neg hc]
   have hb : btI s 0 = some c := by have := ZdZ s 0; rw [hl] at this; exact this
   rw [hb]
   simp only [Zm, ZzU]
   rw [show (((c.toNat : Nat) : Int) != 95) = !(c.toNat == 95) from by rw [bne, show (95 : Int) = ((95 : Nat) : Int) from rfl, Zdk]]
   rw [Zg4, show decide (r.length < 64) = true from decide_eq_true (by omega)]
   cases hw : wst c with
   | false =>
    unfold wst at hw
    cases h1 : (ZgP c || Zgj c) <;> rw [h1] at hw <;> simp_all
   | true =>
    have : (if (!(ZgP c || Zgj c)) = true then some (!(c.toNat == 95)) else some false) = some false := by
     unfold wst at hw
     cases h1 : (ZgP c || Zgj c) <;> rw [h1] at hw <;> simp_all
    rw [this, Zm, Zm, if_neg (by simp)]
    rw [ZxJ s (by omega) _ 0 rfl, List.drop_zero, hl]; rfl
theorem Zf0 {s : ByteArray} (h : ZgH s.data.toList = true) : 0 < s.size ∧ s.size ≤ 64 := by
 rw [← sz]
 cases hl : s.data.toList with
 | nil => rw [hl] at h; cases h
 | cons c r =>
  rw [hl, Zg4, Bool.and_eq_true, Bool.and_eq_true, decide_eq_true_iff] at h
  simp only [List.length_cons]; omega
theorem Zxc (s : ByteArray) (hs : s.size ≤ 1000000) : ∀ (d k : Nat), s.size - k = d → Za7 s k = some ((s.data.toList.drop k).all wch) := by
 intro d
 induction d with
 | zero =>
  intro k hk
  rw [Za7, if_neg (by simp; omega), List.drop_eq_nil_of_le (by rw [sz]; omega)]; rfl
 | succ d ih =>
  intro k hk
  have hlt : k < s.size := by omega
  obtain ⟨y, hy⟩ : ∃ y, s.data.toList[k]? = some y := ⟨_, List.getElem?_eq_getElem (by rw [sz]; exact hlt)⟩
  rw [Za7, if_pos (by simpa using hlt), ZdZ, hy]
  simp only [Zm, ZzS, ZAt, ZzK, ZhN hy, List.all_cons]
  rw [show (((y.toNat : Nat) : Int) != 39) = !(y.toNat == 39) from by rw [bne, show (39 : Int) = ((39 : Nat) : Int) from rfl, Zdk]]
  have h1 : ((if (!(Zgj y || y.toNat == 95)) = true then some (!ZgP y) else some false) >>= fun c51 =>
    (if c51 = true then some (!ZfM y) else some false) >>= fun c54 => (if c54 = true then some (!(y.toNat == 39)) else some false)) = some (!wch y) := by
   unfold wch wst
   cases ZgP y <;> cases Zgj y <;> cases ZfM y <;> cases (y.toNat == 95) <;> cases (y.toNat == 39) <;> rfl
  have h2 : ∀ (f : Bool → Option Bool), ((if (!(Zgj y || y.toNat == 95)) = true then some (!ZgP y) else some false) >>= fun c51 =>
    (if c51 = true then some (!ZfM y) else some false) >>= fun c54 => (if c54 = true then some (!(y.toNat == 39)) else some false) >>= f) = f (!wch y) := fun f => by
   unfold wch wst
   cases ZgP y <;> cases Zgj y <;> cases ZfM y <;> cases (y.toNat == 95) <;> cases (y.toNat == 39) <;> rfl
  rw [h2]
  cases hw : wch y with
  | false => rfl
  | true =>
   simp only [Bool.not_true, Bool.false_eq_true, if_false, Bool.true_and]
   rw [Zdb _ (by omega), ih (k + 1) (by omega)]
theorem ZBl (s : ByteArray) : Zc7 s = some (ZgH s.data.toList) := by
 unfold Zc7
 cases hl : s.data.toList with
 | nil =>
  have h0 : s.size = 0 := by rw [← sz, hl]; rfl
  rw [if_pos (by simp [h0])]; rfl
 | cons c r =>
  have h0 : s.size = r.length + 1 := by rw [← sz, hl]; rfl
  by_cases h64 : s.size > 64
  ·rw [if_pos (by simp; omega), Zm, if_pos rfl]
   rw [Zg4, show decide (r.length < 64) = false from decide_eq_false (by omega)]; rfl
  ·rw [if_neg (by simp; omega)]
   have hb : btI s 0 = some c := by have := ZdZ s 0; rw [hl] at this; exact this
   rw [hb]
   simp only [Zm, ZzS, ZAt]
   rw [Zg4, show decide (r.length < 64) = true from decide_eq_true (by omega)]
   have h2 : ((if (!(Zgj c || c.toNat == 95)) = true then some (!ZgP c) else some false) >>= fun c12 => some c12) = some (!wst c) := by
    unfold wst
    cases ZgP c <;> cases Zgj c <;> cases (c.toNat == 95) <;> rfl
   rw [h2, Zm]
   cases hw : wst c with
   | false => rfl
   | true =>
    simp only [Bool.not_true, Bool.false_eq_true, if_false]
    rw [Zxc s (by omega) _ 0 rfl, List.drop_zero, hl]; rfl
theorem Znp : ∀ (l : List UInt8) (c : UInt8), decide (Lib.indexByte l c ≥ 0) = l.contains c ∧ -1 ≤ Lib.indexByte l c
 | [], c => by simp [Lib.indexByte]
 | b :: l, c => by
  obtain ⟨h1, h2⟩ := Znp l c
  unfold Lib.indexByte
  by_cases hb : b == c
  ·rw [if_pos hb]
   have : c = b := (beq_iff_eq.1 hb).symm
   subst this
   simp
  ·rw [if_neg hb]
   have hc : ¬ c = b := fun e => hb (by simp [e])
   have hcon : (b :: l).contains c = l.contains c := by simp [hc]
   rw [hcon, ← h1]
   split
   ·rename_i h3
    have : Lib.indexByte l c = -1 := by simpa using h3
    rw [this]; simp
   ·rename_i h3
    have h4 : ¬ Lib.indexByte l c = -1 := by simpa using h3
    constructor
    ·apply decide_eq_decide.2; omega
    ·omega
theorem ZBa (c : UInt8) : Zdq ((c.toNat : Nat) : Int) = some (Zsu c) := by
 unfold Zdq strings_IndexByte
 rw [Zm]
 have h1 : ((c.toNat : Nat) : Int).toNat.toUInt8 = c := by rw [Int.toNat_natCast]; simp
 rw [h1, (Znp _ c).1]
 rfl
theorem ZxO (c : Int) (i_4 : Nat) : ZU c i_4 = if (decide (((i_4 : Nat) : Int) < (((ByteArray.mk #[33, 35, 36, 37, 38, 42, 43, 46, 47, 60, 61, 62, 63, 64, 92, 94, 124, 45, 126, 58]).size : Nat) : Int))) = true then
  (btI (ByteArray.mk #[33, 35, 36, 37, 38, 42, 43, 46, 47, 60, 61, 62, 63, 64, 92, 94, 124, 45, 126, 58]) ((i_4 : Nat) : Int)) >>= fun y12 =>
  if (((y12.toNat : Nat) : Int) == c) = true then some true
  else Zac (i_4 + 1 ≤ 9223372036854775807) >>= fun _ => ZU c (i_4 + 1)
  else some false := by
 delta ZU
 exact congrFun (Lean.Order.fix_eq _) i_4
theorem ZsY (c : UInt8) (k : Nat) : ZU ((c.toNat : Nat) : Int) k = if k < 20 then (ZtG[k]? >>= fun y => if y.toNat == c.toNat then some true else (Zac (k + 1 ≤ 9223372036854775807) >>= fun _ => ZU ((c.toNat : Nat) : Int) (k + 1))) else some false := by
 have hs : (ByteArray.mk #[33, 35, 36, 37, 38, 42, 43, 46, 47, 60, 61, 62, 63, 64, 92, 94, 124, 45, 126, 58]).size = 20 := rfl
 have hl : (ByteArray.mk #[33, 35, 36, 37, 38, 42, 43, 46, 47, 60, 61, 62, 63, 64, 92, 94, 124, 45, 126, 58]).data.toList = ZtG := rfl
 have hb := ZdZ (ByteArray.mk #[33, 35, 36, 37, 38, 42, 43, 46, 47, 60, 61, 62, 63, 64, 92, 94, 124, 45, 126, 58]) k
 rw [hl] at hb
 rw [ZxO, hb, hs]
 generalize ZtG[k]? = o
 by_cases h : k < 20
 ·rw [if_pos h, if_pos (decide_eq_true (by omega))]
  cases o with
  | none => rfl
  | some y => simp only [Zm, Zdk]
 ·rw [if_neg h, if_neg (by rw [decide_eq_true_iff]; omega)]
theorem ZtN : ZtG.length = 20 := rfl
theorem Zye (c : UInt8) : ∀ (d k : Nat), 20 - k = d → ZU ((c.toNat : Nat) : Int) k = some ((ZtG.drop k).contains c) := by
 intro d
 induction d with
 | zero =>
  intro k hk
  rw [ZsY, if_neg (by omega), List.drop_eq_nil_of_le (by rw [ZtN]; omega)]; rfl
 | succ d ih =>
  intro k hk
  obtain ⟨y, hy⟩ : ∃ y, ZtG[k]? = some y := ⟨_, List.getElem?_eq_getElem (by rw [ZtN]; omega)⟩
  rw [ZsY, if_pos (by omega), hy, Zm, ZhN hy]
  by_cases he : y = c
  ·subst he; simp
  ·have h1 : (y.toNat == c.toNat) = false := by simp; exact fun e => he (UInt8.toNat_inj.1 e)
   rw [h1, if_neg (by simp), Zdb _ (by omega), ih (k + 1) (by omega)]
   have h2 : ¬ c = y := fun e => he e.symm
   simp [h2]
theorem ZA1 (c : UInt8) : Zb5 ((c.toNat : Nat) : Int) = some (Zsu c) := by
 unfold Zb5; rw [Zye c _ 0 rfl]; rfl
def cnt (l : List UInt8) : Nat := (l.filter fun c => c.toNat == 45).length
theorem Zt1 (s : ByteArray) (hs : s.size ≤ 1000000) : ∀ (d k m : Nat), s.size - k = d → k ≤ s.size → m ≤ k → ZbC s m k =
  some ((s.data.toList.drop k).all Zsu && (decide (s.size = 1) || decide (m + cnt (s.data.toList.drop k) < s.size))) := by
 intro d
 induction d with
 | zero =>
  intro k m hk hle hm
  have : k = s.size := by omega
  subst this
  rw [ZbC, if_pos (by simp), List.drop_eq_nil_of_le (by rw [sz]; omega)]
  have e1 : (((s.size : Nat) : Int) == 1) = decide (s.size = 1) := by rw [show (1 : Int) = ((1 : Nat) : Int) from rfl, Zdk, Bool.eq_iff_iff, beq_iff_eq, decide_eq_true_iff]
  rw [e1]
  have e2 : decide (((m : Nat) : Int) < ((s.size : Nat) : Int)) = decide (m + cnt ([] : List UInt8) < s.size) := decide_eq_decide.2 (by show _ ↔ m + 0 < s.size; omega)
  rw [e2]; rfl
 | succ d ih =>
  intro k m hk hle hm
  have hlt : k < s.size := by omega
  obtain ⟨y, hy⟩ : ∃ y, s.data.toList[k]? = some y := ⟨_, List.getElem?_eq_getElem (by rw [sz]; exact hlt)⟩
  have hne : ¬ ((((k : Nat) : Int) == ((s.size : Nat) : Int)) = true) := by rw [Zdk, beq_iff_eq]; omega
  rw [ZbC, if_neg hne, ZdZ, hy]
  simp only [Zm, ZBa, ZhN hy, List.all_cons]
  cases hc : Zsu y with
  | false => rfl
  | true =>
   rw [show (45 : Int) = ((45 : Nat) : Int) from rfl, Zdk]
   simp only [Bool.not_true, Bool.false_eq_true, if_false, Bool.true_and]
   cases h45 : (y.toNat == 45) with
   | true =>
    rw [if_pos rfl, Zdb _ (by omega), Zdb _ (by omega), ih (k + 1) (m + 1) (by omega) (by omega) (by omega)]
    have : cnt (y :: s.data.toList.drop (k + 1)) = cnt (s.data.toList.drop (k + 1)) + 1 := by unfold cnt; rw [List.filter_cons, if_pos h45]; rfl
    rw [this, show m + (cnt (s.data.toList.drop (k + 1)) + 1) = m + 1 + cnt (s.data.toList.drop (k + 1)) from by omega]
   | false =>
    rw [if_neg (by simp), Zdb _ (by omega), ih (k + 1) m (by omega) (by omega) (by omega)]
    have : cnt (y :: s.data.toList.drop (k + 1)) = cnt (s.data.toList.drop (k + 1)) := by unfold cnt; rw [List.filter_cons, if_neg (by rw [h45]; simp)]
    rw [this]
theorem Zug (s : ByteArray) (hs : s.size ≤ 1000000) : ∀ (d k m : Nat), s.size - k = d → k ≤ s.size → m ≤ k → Zap s m k =
  some ((s.data.toList.drop k).all Zsu && (decide (s.size = 1) || decide (m + cnt (s.data.toList.drop k) < s.size))) := by
 intro d
 induction d with
 | zero =>
  intro k m hk hle hm
  have : k = s.size := by omega
  subst this
  rw [Zap, if_neg (by rw [decide_eq_true_iff]; omega), List.drop_eq_nil_of_le (by rw [sz]; omega)]
  have e1 : (((s.size : Nat) : Int) == 1) = decide (s.size = 1) := by rw [show (1 : Int) = ((1 : Nat) : Int) from rfl, Zdk, Bool.eq_iff_iff, beq_iff_eq, decide_eq_true_iff]
  rw [e1]
  have e2 : decide (((m : Nat) : Int) < ((s.size : Nat) : Int)) = decide (m + cnt ([] : List UInt8) < s.size) := decide_eq_decide.2 (by show _ ↔ m + 0 < s.size; omega)
  rw [e2, Bool.or_comm]; rfl
 | succ d ih =>
  intro k m hk hle hm
  have hlt : k < s.size := by omega
  obtain ⟨y, hy⟩ : ∃ y, s.data.toList[k]? = some y := ⟨_, List.getElem?_eq_getElem (by rw [sz]; exact hlt)⟩
  rw [Zap, if_pos (by rw [decide_eq_true_iff]; omega), ZdZ, hy]
  simp only [Zm, ZA1, ZhN hy, List.all_cons]
  cases hc : Zsu y with
  | false => rfl
  | true =>
   rw [show (45 : Int) = ((45 : Nat) : Int) from rfl, Zdk]
   simp only [Bool.not_true, Bool.false_eq_true, if_false, Bool.true_and]
   cases h45 : (y.toNat == 45) with
   | true =>
    rw [if_pos rfl, Zdb _ (by omega), Zdb _ (by omega), ih (k + 1) (m + 1) (by omega) (by omega) (by omega)]
    have : cnt (y :: s.data.toList.drop (k + 1)) = cnt (s.data.toList.drop (k + 1)) + 1 := by unfold cnt; rw [List.filter_cons, if_pos h45]; rfl
    rw [this, show m + (cnt (s.data.toList.drop (k + 1)) + 1) = m + 1 + cnt (s.data.toList.drop (k + 1)) from by omega]
   | false =>
    rw [if_neg (by simp), Zdb _ (by omega), ih (k + 1) m (by omega) (by omega) (by omega)]
    have : cnt (y :: s.data.toList.drop (k + 1)) = cnt (s.data.toList.drop (k + 1)) := by unfold cnt; rw [List.filter_cons, if_neg (by rw [h45]; simp)]
    rw [this]
def Zee (l : List UInt8) : Bool := decide (0 < l.length) && decide (l.length ≤ 64) && l.all Zsu && (decide (l.length = 1) || decide (cnt l < l.length))
theorem ZpV (s : ByteArray) : Zdj s = some (Zee s.data.toList) := by
 unfold Zdj Zee
 rw [ZlC, sz]
 by_cases hc : (decide (s.size = 0) || decide (((s.size : Nat) : Int) > 64)) = true
 ·rw [if_pos hc]
  rw [Bool.or_eq_true, decide_eq_true_iff, decide_eq_true_iff] at hc
  rcases hc with hc | hc
  ·rw [show decide (0 < s.size) = false from decide_eq_false (by omega)]; rfl
  ·rw [show decide (s.size ≤ 64) = false from decide_eq_false (by omega), Bool.and_false]; rfl
 ·rw [if_neg hc]
  rw [Bool.or_eq_true, decide_eq_true_iff, decide_eq_true_iff] at hc
  rw [Zt1 s (by omega) _ 0 0 rfl (by omega) (by omega), List.drop_zero, show decide (0 < s.size) = true from decide_eq_true (by omega), show decide (s.size ≤ 64) = true from decide_eq_true (by omega), Nat.zero_add]; rfl
theorem ZxT (s : ByteArray) : ZcB s = some (Zee s.data.toList) := by
 unfold ZcB Zee
 rw [sz]
 by_cases hc : (decide (((s.size : Nat) : Int) < 1) || decide (((s.size : Nat) : Int) > 64)) = true
 ·rw [if_pos hc]
  rw [Bool.or_eq_true, decide_eq_true_iff, decide_eq_true_iff] at hc
  rcases hc with hc | hc
  ·rw [show decide (0 < s.size) = false from decide_eq_false (by omega)]; rfl
  ·rw [show decide (s.size ≤ 64) = false from decide_eq_false (by omega), Bool.and_false]; rfl
 ·rw [if_neg hc]
  rw [Bool.or_eq_true, decide_eq_true_iff, decide_eq_true_iff] at hc
  rw [Zug s (by omega) _ 0 0 rfl (by omega) (by omega), List.drop_zero, show decide (0 < s.size) = true from decide_eq_true (by omega), show decide (s.size ≤ 64) = true from decide_eq_true (by omega), Nat.zero_add]; rfl

def ZcT : List (List UInt8) := [[97, 115], [99, 97, 115, 101], [99, 108, 97, 115, 115], [100, 97, 116, 97], [100, 101, 114, 105, 118, 105, 110, 103], [100, 111], [101, 108, 115, 101], [104, 105, 100, 105, 110, 103], [105, 102], [105, 109, 112, 111, 114, 116], [105, 110], [105, 110, 102, 105, 120], [105, 110, 102, 105, 120, 108], [105, 110, 102, 105, 120, 114], [105, 110, 115, 116, 97, 110, 99, 101], [108, 101, 116], [109, 111, 100, 117, 108, 101], [111, 102], [113, 117, 97, 108, 105, 102, 105, 101, 100], [116, 104, 101, 110], [119, 104, 101, 114, 101], [95]]
def ZeF : List (List UInt8) := [[46, 46], [58, 58], [61], [92], [124], [60, 45], [45, 62], [64], [126], [61, 62]]
def Zub (l : List UInt8) : List (List UInt8) → Option Bool
 | [] => some false
 | w :: ws => if (l == w) = true then some true else Zub l ws
theorem ZkX (l : List UInt8) : ∀ ws, Zub l ws = some (ws.contains l)
 | [] => rfl
 | w :: ws => by
  unfold Zub
  rw [ZkX l ws, List.contains_cons]
  cases (l == w) <;> rfl
theorem Zkn (c : Bool) (x : Option Bool) : (if c = true then some c else x) = (if c = true then some true else x) := by cases c <;> rfl
theorem Zxr (c : Bool) (x y z : Option Bool) : (if c = true then (if c = true then x else y) else z) = (if c = true then x else z) := by cases c <;> rfl
theorem Zo3 (c : Bool) : some c = (if c = true then some true else some false) := by cases c <;> rfl
theorem nk1 (x : Bool) : Zt x = some x := by cases x <;> rfl
theorem rk2 (x : Bool) : ZH x = some x := by cases x <;> rfl
theorem nsk (x : Bool) : ZI x = some x := by cases x <;> rfl
theorem rsk (x : Bool) : Zx x = some x := by cases x <;> rfl
theorem ZzV (s : ByteArray) : ZbZ s = some (ZcT.contains s.data.toList) := by
 rw [← ZkX]
 unfold ZbZ
 simp only [nk1, Zkn, ZaL]
 rw [Zo3 (s.data.toList == _)]
 rfl
theorem ZCV (s : ByteArray) : Zb8 s = some (ZcT.contains s.data.toList) := by
 rw [← ZkX]
 unfold Zb8 ZF
 simp only [rk2, Zxr, Zkn, ZaL]
 rw [Zo3 (s.data.toList == _)]
 rfl
theorem Zyn (s : ByteArray) : Zbh s = some (ZeF.contains s.data.toList) := by
 rw [← ZkX]
 unfold Zbh
 simp only [nsk, Zkn, ZaL]
 rw [Zo3 (s.data.toList == _)]
 rfl
theorem ZBx (s : ByteArray) : ZaK s = some (ZeF.contains s.data.toList) := by
 rw [← ZkX]
 unfold ZaK
 simp only [rsk, Zkn, ZaL]
 rw [Zo3 (s.data.toList == _)]
 rfl
theorem Zx1 {l : List UInt8} (h : ZcT.contains l = true) : ZgH l = true := by
 have h := List.contains_iff_mem.1 h
 have key : ∀ w ∈ ZcT, ZgH w = true := by decide
 exact key l h
theorem Zow {l : List UInt8} (h : ZeF.contains l = true) : Zee l = true := by
 have h := List.contains_iff_mem.1 h
 have key : ∀ w ∈ ZeF, Zee w = true := by decide
 exact key l h
theorem ZsA : ∀ c : UInt8, Zsu c = true → wst c = false := by
 intro c h
 have h := List.contains_iff_mem.1 h
 have key : ∀ w ∈ ZtG, wst w = false := by decide
 exact key c h
theorem Zho {l : List UInt8} (h : ZgH l = true) : Zee l = false := by
 cases l with
 | nil => cases h
 | cons c r =>
  rw [Zg4, Bool.and_eq_true, Bool.and_eq_true] at h
  cases hs : Zsu c with
  | true => have := ZsA c hs; rw [h.1.2] at this; cases this
  | false => unfold Zee; rw [List.all_cons, hs]; simp
def Zhs (l : List UInt8) : Bool := match l with | [] => false | c :: _ => ZgP c
def ZoU (l : List UInt8) : Bool := match l with | [] => false | c :: _ => c.toNat == 58
def Zda (l : List UInt8) : Int :=
 if ZgH l = true then (if ZcT.contains l = true then 5 else if Zhs l = true then 2 else 1)
 else if Zee l = true then (if ZeF.contains l = true then 6 else if ZoU l = true then 4 else 3) else 0
theorem Znm {s : ByteArray} (h : 0 < s.size) : ∃ c r, s.data.toList = c :: r ∧ btI s 0 = some c := by
 cases hl : s.data.toList with
 | nil => rw [← sz, hl] at h; cases h
 | cons c r => exact ⟨c, r, rfl, by have := ZdZ s 0; rw [hl] at this; exact this⟩
theorem ZkY {s : ByteArray} (h : Zee s.data.toList = true) : 0 < s.size ∧ s.size ≤ 64 := by
 unfold Zee at h
 simp only [Bool.and_eq_true, decide_eq_true_iff, sz] at h
 omega
theorem ZkM (s : ByteArray) : Za4 s = some (Zda s.data.toList) := by
 unfold Za4 Zda
 rw [ZBl, Zm]
 cases hw : ZgH s.data.toList with
 | true =>
  obtain ⟨c, r, hl, hb⟩ := Znm (Zf0 hw).1
  rw [if_pos rfl, if_pos rfl, ZCV, Zm]
  cases ZcT.contains s.data.toList with
  | true => rfl
  | false =>
   rw [if_neg (by simp), if_neg (by simp), hb, Zm, ZAt, Zm, hl]
   show _ = some (if ZgP c = true then 2 else 1)
   cases ZgP c <;> rfl
 | false =>
  rw [if_neg (by simp), if_neg (by simp), ZxT, Zm]
  cases hs : Zee s.data.toList with
  | true =>
   obtain ⟨c, r, hl, hb⟩ := Znm (ZkY hs).1
   rw [if_pos rfl, if_pos rfl, ZBx, Zm]
   cases ZeF.contains s.data.toList with
   | true => rfl
   | false =>
    rw [if_neg (by simp), if_neg (by simp), hb, Zm, show (58 : Int) = ((58 : Nat) : Int) from rfl, Zdk, hl]
    show _ = some (if (c.toNat == 58) = true then 4 else 3)
    cases (c.toNat == 58) <;> rfl
  | false => rfl
def ZgW (l : List UInt8) : Bool := (ZgH l && !ZcT.contains l) || (Zee l && !ZeF.contains l)
theorem ZtB (l : List UInt8) : ((((Zda l == 1) || (Zda l == 2)) || (Zda l == 3)) || (Zda l == 4)) = ZgW l := by
 unfold Zda ZgW
 cases hw : ZgH l with
 | true => rw [Zho hw]; cases ZcT.contains l <;> cases Zhs l <;> rfl
 | false => cases Zee l <;> cases ZeF.contains l <;> cases ZoU l <;> rfl
theorem ZvC (s : ByteArray) : Zcr s = some (ZgW s.data.toList) := by
 unfold Zcr; rw [ZkM, Zm, ZtB]
theorem ZtL (s : ByteArray) : ZdH s = some (ZgW s.data.toList) := by
 unfold ZdH ZgW
 rw [ZuA, Zm]
 cases hw : ZgH s.data.toList with
 | true =>
  rw [ZzV, ZpV, Zho hw]
  cases ZcT.contains s.data.toList <;> rfl
 | false =>
  rw [ZpV]
  cases Zee s.data.toList with
  | true => rw [Zyn]; cases ZeF.contains s.data.toList <;> rfl
  | false => rfl
theorem Zwc (l : List UInt8) : (Zda l != 2) = !(ZgH l && Zhs l && !ZcT.contains l) := by
 unfold Zda
 cases ZgH l <;> cases ZcT.contains l <;> cases Zhs l <;> cases Zee l <;> cases ZeF.contains l <;> cases ZoU l <;> rfl
theorem ZyZ {l : List UInt8} (h : Zhs l = true) : ZcT.contains l = false := by
 cases hr : ZcT.contains l with
 | false => rfl
 | true =>
  have hm := List.contains_iff_mem.1 hr
  have key : ∀ w ∈ ZcT, Zhs w = false := by decide
  rw [key l hm] at h; cases h

def mkB (l : List UInt8) : ByteArray := ⟨l.toArray⟩
theorem Zed (l : List UInt8) : (mkB l).data.toList = l := by simp [mkB]
theorem Zjo (l : List UInt8) : (mkB l).size = l.length := by rw [← sz, Zed]
theorem ZkU (a b : ByteArray) : (a ++ b).data.toList = a.data.toList ++ b.data.toList := by simp
def okJ (m n : List UInt8) : Bool := ZgH m && Zhs m && ZgW n
theorem ZpK {s : ByteArray} (h : ZgW s.data.toList = true) : 0 < s.size ∧ s.size ≤ 64 := by
 unfold ZgW at h
 rw [Bool.or_eq_true, Bool.and_eq_true, Bool.and_eq_true] at h
 rcases h with h | h
 ·exact Zf0 h.1
 ·exact ZkY h.1
def Zrh (m n : ByteArray) : ByteArray := if okJ m.data.toList n.data.toList = true then (m ++ ByteArray.mk #[46]) ++ n else ByteArray.mk #[]
theorem ZnU : IntKind.i64.max = 9223372036854775807 := rfl
theorem Zqa (a b : ByteArray) : (a ++ b).size = a.size + b.size := by rw [← sz, ZkU, List.length_append, sz, sz]
theorem orT {α : Type} (Y : Option Bool) (G : Bool → Option α) : ((if true = true then some true else Y) >>= G) = G true := rfl
theorem orF {α : Type} (Y : Option Bool) (G : Bool → Option α) : ((if false = true then some true else Y) >>= G) = (Y >>= G) := rfl
theorem ZAz {α : Type} (Y : Option Bool) (G : Bool → Option α) : ((if true = true then Y else some false) >>= G) = (Y >>= G) := rfl
theorem ZBg {α : Type} (Y : Option Bool) (G : Bool → Option α) : ((if false = true then Y else some false) >>= G) = G false := rfl
theorem ifT {α : Type} (a b : α) : (if true = true then a else b) = a := rfl
theorem ifF {α : Type} (a b : α) : (if false = true then a else b) = b := rfl
theorem ZyD {m n : ByteArray} (hm : m.size ≤ 64) (hn : n.size ≤ 64) : (Zac (((m.size + (ByteArray.mk #[46]).size : Nat) : Int) ≤ IntKind.i64.max) >>= fun _ =>
  Zac ((((m ++ (ByteArray.mk #[46])).size + n.size : Nat) : Int) ≤ IntKind.i64.max) >>= fun _ => some ((m ++ (ByteArray.mk #[46])) ++ n)) = some ((m ++ (ByteArray.mk #[46])) ++ n) := by
 have e : (ByteArray.mk #[46]).size = 1 := rfl
 have h1 : ((m.size + (ByteArray.mk #[46]).size : Nat) : Int) ≤ IntKind.i64.max := by rw [ZnU, e]; omega
 have h2 : (((m ++ (ByteArray.mk #[46])).size + n.size : Nat) : Int) ≤ IntKind.i64.max := by rw [ZnU, Zqa, e]; omega
 rw [Zdb _ h1, Zdb _ h2]
theorem ZBL (m n : ByteArray) : Ze7 m n = some (Zrh m n) := by
 unfold Ze7 Zrh okJ
 rw [ZuA, Zm]
 cases hw : ZgH m.data.toList with
 | false => rw [Bool.not_false, orT, orT, Bool.false_and, Bool.false_and, ifT, ifF]
 | true =>
  obtain ⟨c, r, hl, hb⟩ := Znm (Zf0 hw).1
  have h64 := Zf0 hw
  have hu : Zhs m.data.toList = ZgP c := by rw [hl]; rfl
  rw [Bool.not_true, orF, hb, Zm, ZBM, Zm, Zm, hu]
  cases ZgP c with
  | false => rw [Bool.not_false, orT, Bool.and_false, Bool.false_and, ifT, ifF]
  | true =>
   rw [Bool.not_true, orF, ZtL, Zm, Zm]
   cases hn : ZgW n.data.toList with
   | false => rw [Bool.not_false, ifT, Bool.and_false, ifF]
   | true =>
    have h65 := ZpK hn
    rw [Bool.not_true, ifF, Bool.and_true, Bool.and_true, ifT]
    exact ZyD h64.2 h65.2
theorem ZBP (m n : ByteArray) : Zc4 m n = some (Zrh m n) := by
 unfold Zc4 Zrh okJ
 rw [ZkM, Zm, Zwc]
 cases hw : ZgH m.data.toList with
 | false => rw [show (!(false && Zhs m.data.toList && !ZcT.contains m.data.toList)) = true from rfl, orT, show (false && Zhs m.data.toList && ZgW n.data.toList) = false from rfl, ifT, ifF]
 | true =>
  have h64 := Zf0 hw
  cases hu : Zhs m.data.toList with
  | false => rw [show (!(true && false && !ZcT.contains m.data.toList)) = true from rfl, orT, show (true && false && ZgW n.data.toList) = false from rfl, ifT, ifF]
  | true =>
   rw [ZyZ hu, ZvC, Bool.and_true, Bool.not_false, Bool.and_true, Bool.not_true, orF, Zm, Zm]
   cases hn : ZgW n.data.toList with
   | false => rw [Bool.not_false, ifT, Bool.and_false, ifF]
   | true =>
    have h65 := ZpK hn
    rw [Bool.not_true, ifF, Bool.and_true, ifT]
    exact ZyD h64.2 h65.2
theorem Ztd (m n : ByteArray) : ((Zrh m n).toList == (ByteArray.mk #[]).toList) = !okJ m.data.toList n.data.toList := by
 rw [ZlC]
 unfold Zrh
 cases okJ m.data.toList n.data.toList with
 | true =>
  have e : (ByteArray.mk #[46]).size = 1 := rfl
  rw [if_pos rfl]
  exact decide_eq_false (by rw [Zqa, Zqa, e]; omega)
 | false => rfl
def spl : List UInt8 → Option (List UInt8 × List UInt8)
 | [] => none
 | b :: l => if b.toNat = 46 then some ([], l) else (spl l).map fun p => (b :: p.1, p.2)
theorem Zzy : ∀ l : List UInt8, Lib.cut l [46] = match spl l with | some p => (p.1, p.2, true) | none => (l, [], false) := by
 have key : ∀ l : List UInt8, match spl l with | some p => 0 ≤ Lib.indexByte l 46 ∧ l.take (Lib.indexByte l 46).toNat = p.1 ∧ l.drop ((Lib.indexByte l 46).toNat + 1) = p.2 | none => Lib.indexByte l 46 = -1 := by
  intro l
  induction l with
  | nil => rfl
  | cons b l ih =>
   unfold spl Lib.indexByte
   by_cases hb : b.toNat = 46
   ·have : b = 46 := UInt8.toNat_inj.1 hb
    subst this
    simp
   ·have h2 : (b == 46) = false := by
     rw [beq_eq_false_iff_ne]; rintro rfl; exact hb rfl
    rw [if_neg hb, h2]
    simp only [Bool.false_eq_true, if_false]
    cases hs : spl l with
    | none => rw [hs] at ih; simp only at ih; simp [ih]
    | some p =>
     rw [hs] at ih
     simp only at ih
     obtain ⟨h3, h4, h5⟩ := ih
     have h6 : (Lib.indexByte l 46 == -1) = false := by rw [beq_eq_false_iff_ne]; omega
     simp only [Option.map_some, h6, Bool.false_eq_true, if_false]
     have h7 : (Lib.indexByte l 46 + 1).toNat = (Lib.indexByte l 46).toNat + 1 := by omega
     rw [h7, List.take_succ_cons, List.drop_succ_cons, h4, h5]
     exact ⟨by omega, rfl, rfl⟩
 intro l
 have h := key l
 unfold Lib.cut
 rw [Lib.index_one]
 cases hs : spl l with
 | none => rw [hs] at h; simp only at h; rw [h]; rfl
 | some p =>
  rw [hs] at h
  simp only at h
  rw [if_pos h.1, h.2.1]
  show (_, l.drop (_ + 1), true) = _
  rw [h.2.2]
def ZgZ (s : ByteArray) : ByteArray × ByteArray × Bool :=
 match spl s.data.toList with
 | some p => if okJ p.1 p.2 = true then (mkB p.1, mkB p.2, true) else (ByteArray.mk #[], ByteArray.mk #[], false)
 | none => (ByteArray.mk #[], ByteArray.mk #[], false)
theorem Zvf (s : ByteArray) (hs : s.size ≤ 1000000000) : Zeg s = some (ZgZ s) := by
 unfold Zeg strings_Cut
 rw [Zdb _ (by omega), Zm]
 have hc : ZA8 s (ByteArray.mk #[46]) = match spl s.data.toList with | some p => (mkB p.1, mkB p.2, true) | none => (mkB s.data.toList, mkB [], false) := by
  unfold ZA8
  have e : (ByteArray.mk #[46]).data.toList = [46] := rfl
  rw [e, Zzy]
  cases spl s.data.toList <;> rfl
 unfold ZgZ
 rw [hc]
 cases spl s.data.toList with
 | none => rw [Bool.not_false, orT, ifT]
 | some p =>
  simp only [Bool.not_true]
  rw [orF, ZBL, Zm, Zm, Ztd, Zed, Zed]
  cases okJ p.1 p.2 with
  | true => rw [Bool.not_true, ifF, ifT]
  | false => rw [Bool.not_false, ifT, ifF]
theorem ZmH (s : ByteArray) (a b : Nat) (h : a ≤ b) (hb : b ≤ s.size) : slS s ((a : Nat) : Int) ((b : Nat) : Int) = some (s.extract a b) := by
 unfold slS
 rw [if_pos (by omega), Int.toNat_natCast, Int.toNat_natCast]
theorem ZeC (s : ByteArray) (a b : Nat) : (s.extract a b).data.toList = (s.data.toList.drop a).take (b - a) := by
 rw [ByteArray.data_extract, Array.toList_extract, List.extract_eq_take_drop]
theorem Zxm {l : List UInt8} {k : Nat} {y : UInt8} (h : l[k]? = some y) : spl (l.drop k) = if y.toNat = 46 then some ([], l.drop (k + 1)) else (spl (l.drop (k + 1))).map fun p => (y :: p.1, p.2) := by
 rw [ZhN h, spl]
theorem ZwB (s : ByteArray) (hs : s.size ≤ 1000000000) : ∀ (d k : Nat), s.size - k = d → k ≤ s.size → ZaN s k = some (match spl (s.data.toList.drop k) with
  | some p => if okJ (s.data.toList.take k ++ p.1) p.2 = true then (mkB (s.data.toList.take k ++ p.1), mkB p.2, true) else (ByteArray.mk #[], ByteArray.mk #[], false)
  | none => (ByteArray.mk #[], ByteArray.mk #[], false)) := by
 intro d
 induction d with
 | zero =>
  intro k hk hle
  rw [ZaN, if_neg (by rw [decide_eq_true_iff]; omega), List.drop_eq_nil_of_le (by rw [sz]; omega)]; rfl
 | succ d ih =>
  intro k hk hle
  have hlt : k < s.size := by omega
  obtain ⟨y, hy⟩ : ∃ y, s.data.toList[k]? = some y := ⟨_, List.getElem?_eq_getElem (by rw [sz]; exact hlt)⟩
  rw [ZaN, if_pos (by rw [decide_eq_true_iff]; omega), ZdZ, hy, Zm, Zxm hy, show (46 : Int) = ((46 : Nat) : Int) from rfl, bne, Zdk]
  by_cases h46 : y.toNat = 46
  ·have h1 : (y.toNat == 46) = true := by rw [beq_iff_eq]; exact h46
   have hz0 : (s.extract 0 k).data.toList = s.data.toList.take k := by rw [ZeC]; rfl
   have hz1 : (s.extract (k + 1) s.size).data.toList = s.data.toList.drop (k + 1) := by rw [ZeC]; exact List.take_of_length_le (by rw [List.length_drop, sz]; omega)
   have e1 : s.extract 0 k = mkB (s.data.toList.take k) := Zfi (by rw [hz0, Zed])
   have e2 : s.extract (k + 1) s.size = mkB (s.data.toList.drop (k + 1)) := Zfi (by rw [hz1, Zed])
   rw [h1, Bool.not_true, ifF, ZmH s 0 k (by omega) (by omega), Zm, Zdb _ (by omega), ZcM (by omega), ZmH s (k + 1) s.size (by omega) (by omega), Zm, ZBP, Zm, Ztd, hz0, hz1, if_pos h46, Zm, Zdb _ (by omega), Zm, e1, e2]
   simp only [List.append_nil]
   cases okJ (s.data.toList.take k) (s.data.toList.drop (k + 1)) with
   | true => rw [Bool.not_true, ifF, ifT]
   | false => rw [Bool.not_false, ifT, ifF]
  ·have h1 : (y.toNat == 46) = false := by rw [beq_eq_false_iff_ne]; exact h46
   rw [h1, Bool.not_false, ifT, Zdb _ (by omega), ih (k + 1) (by omega) (by omega), if_neg h46]
   have ht : s.data.toList.take (k + 1) = s.data.toList.take k ++ [y] := by rw [List.take_add_one, hy]; rfl
   cases spl (s.data.toList.drop (k + 1)) with
   | none => rfl
   | some p =>
    simp only [Option.map_some]
    rw [ht, List.append_assoc]; rfl
theorem ZvZ (s : ByteArray) (hs : s.size ≤ 1000000000) : Zcv s = some (ZgZ s) := by
 unfold Zcv ZgZ
 rw [ZwB s hs _ 0 rfl (by omega)]; rfl
def Zlp (s : ByteArray) : Bool := (ZgZ s).2.2 || ZgW s.data.toList
theorem ZyP (s : ByteArray) (hs : s.size ≤ 1000000000) : Zd9 s = some (Zlp s) := by
 unfold Zd9 Zlp
 rw [Zvf s hs, Zm]
 cases (ZgZ s).2.2 with
 | true => rfl
 | false => rw [orF, ZtL]; rfl
theorem ZAs (s : ByteArray) (hs : s.size ≤ 1000000000) : ZcI s = some (Zlp s) := by
 unfold ZcI Zlp
 rw [ZvZ s hs, Zm]
 cases (ZgZ s).2.2 with
 | true => rfl
 | false => rw [orF, ZvC]; rfl

def Zn8 (b : UInt8) : Prop := 48 ≤ b.toNat ∧ b.toNat ≤ 57
theorem ZhL {k : Nat} (h : k < 10) : (UInt8.ofNat (48 + k)).toNat = 48 + k := by
 rw [UInt8.toNat_ofNat']; omega
theorem Zu5 : ∀ (n u : Nat), u ≤ n → ∀ b ∈ Lib.decDigits u, Zn8 b := by
 intro n
 induction n with
 | zero =>
  intro u hu b hb
  rw [Lib.decDigits, dif_pos (by omega)] at hb
  simp only [List.mem_singleton] at hb
  subst hb
  unfold Zn8; rw [ZhL (by omega)]; omega
 | succ n ih =>
  intro u hu b hb
  rw [Lib.decDigits] at hb
  split at hb
  ·simp only [List.mem_singleton] at hb
   subst hb
   unfold Zn8; rw [ZhL (by omega)]; omega
  ·rw [List.mem_append] at hb
   rcases hb with hb | hb
   ·exact ih (u / 10) (by omega) b hb
   ·simp only [List.mem_singleton] at hb
    subst hb
    unfold Zn8; rw [ZhL (by omega)]; omega
theorem Zr1 : ∀ (k u : Nat), u < 10 ^ (k + 1) → (Lib.decDigits u).length ≤ k + 1
 | 0, u, h => by rw [Lib.decDigits, dif_pos (by simpa using h)]; simp
 | k + 1, u, h => by
  rw [Lib.decDigits]
  split
  ·simp
  ·rw [List.length_append, List.length_singleton]
   have := Zr1 k (u / 10) (by rw [Nat.pow_succ] at h; omega)
   omega
theorem ZrU (u : Nat) : Lib.decDigits u ≠ [] := by
 rw [Lib.decDigits]; split <;> simp
theorem Zwv : ∀ (n u : Nat), u ≤ n → u < 18446744073709551616 → ∀ r : List UInt8, Lib.parseUint10 0 (Lib.decDigits u ++ r) = Lib.parseUint10 u r := by
 intro n
 induction n with
 | zero =>
  intro u hu _ r
  obtain rfl : u = 0 := by omega
  rw [Lib.decDigits, dif_pos (by omega)]
  simp only [List.cons_append, List.nil_append, Lib.parseUint10]
  rfl
 | succ n ih =>
  intro u hu hl r
  rw [Lib.decDigits]
  split
  ·rename_i h
   simp only [List.cons_append, List.nil_append, Lib.parseUint10, ZhL h]
   rw [if_pos (by omega), if_neg (by omega), if_neg (by omega)]
   congr 1; omega
  ·rename_i h
   rw [List.append_assoc, ih (u / 10) (by omega) (by omega)]
   simp only [List.cons_append, List.nil_append, Lib.parseUint10, ZhL (show u % 10 < 10 by omega)]
   rw [if_pos (by omega), if_neg (by omega), if_neg (by omega)]
   congr 1; omega
theorem ZvL {u : Nat} (h : u < 18446744073709551616) : Lib.parseMag (Lib.decDigits u) = .ok u := by
 unfold Lib.parseMag
 rw [if_neg (ZrU u)]
 have := Zwv u u (Nat.le_refl _) h []
 rw [List.append_nil] at this
 rw [this]; rfl
def Zmb (n : Int) : Prop := -9223372036854775808 ≤ n ∧ n ≤ 9223372036854775807
theorem ZwF {n : Int} (h : Zmb n) : Lib.atoiAll (Lib.itoa n) = .ok n := by
 unfold Zmb at h
 unfold Lib.itoa
 by_cases hn : n < 0
 ·rw [if_pos hn]
  simp only [Lib.atoiAll]
  rw [if_pos (by decide), ZvL (by omega)]
  simp only
  rw [if_neg (by simp), if_neg (by simp; omega), if_pos (by decide)]
  congr 1; omega
 ·rw [if_neg hn]
  cases hd : Lib.decDigits n.toNat with
  | nil => exact absurd hd (ZrU _)
  | cons b r =>
   have hb : Zn8 b := Zu5 _ n.toNat (Nat.le_refl _) b (by rw [hd]; simp)
   unfold Zn8 at hb
   have hm := ZvL (u := n.toNat) (by omega)
   rw [hd] at hm
   simp only [Lib.atoiAll]
   rw [if_neg (by omega), hm]
   simp only
   rw [if_neg (by omega), if_neg (by omega), if_neg (by omega)]
   congr 1; omega
theorem Zyh {n : Int} (h : Zmb n) : (Lib.itoa n).length ≤ 21 := by
 unfold Zmb at h
 unfold Lib.itoa
 have hp : (9223372036854775808 : Nat) < 10 ^ (19 + 1) := by decide
 split
 ·have := Zr1 19 n.natAbs (by omega); simp; omega
 ·have := Zr1 19 n.toNat (by omega); omega
theorem ZpU (n : Int) : (Zqt n).data.toList = Lib.itoa n := rfl
theorem Zqi {l : List UInt8} {v : Int} (h : Lib.atoiAll l = .ok v) : Zmb v := by
 unfold Zmb
 cases l with
 | nil => cases h
 | cons c r =>
  simp only [Lib.atoiAll] at h
  split at h
  ·cases h
  ·cases h
  ·rename_i u hu
   split at h
   ·cases h
   ·split at h
    ·cases h
    ·injection h with h
     split at h <;> omega
def ZCD (n : Nat) (c : UInt8) : Nat := 10 * n + (c.toNat - 48)
def Zg3 (n : Nat) (l : List UInt8) : Nat := l.foldl ZCD n
theorem Zyx (a b : List UInt8) (n : Nat) : Zg3 n (a ++ b) = Zg3 (Zg3 n a) b := List.foldl_append
theorem Zk0 (n : Nat) : Zg3 n [] = n := List.foldl_nil
theorem Zja (n : Nat) (c : UInt8) (l : List UInt8) : Zg3 n (c :: l) = Zg3 (10 * n + (c.toNat - 48)) l := List.foldl_cons ..
theorem ZsL (c : UInt8) : Zg3 0 [c] = c.toNat - 48 := by rw [Zja, Zk0]; omega
theorem Zro (l : List UInt8) (c : UInt8) : Zg3 0 (l ++ [c]) = 10 * Zg3 0 l + (c.toNat - 48) := by rw [Zyx, Zja, Zk0]
theorem Zn3 : ∀ (l : List UInt8) (n : Nat), n ≤ Zg3 n l
 | [], n => by rw [Zk0]; exact Nat.le_refl _
 | c :: l, n => by rw [Zja]; exact Nat.le_trans (by omega) (Zn3 l _)
def ZhH (l : List UInt8) : Bool := match l with
 | [] => false
 | c :: r => (r.isEmpty || !(c.toNat == 48)) && (c :: r).all ZfM && decide (Zg3 0 (c :: r) ≤ 9223372036854775807)
theorem ZlF (c : UInt8) : ZfM c = true ↔ 48 ≤ c.toNat ∧ c.toNat ≤ 57 := by
 unfold ZfM; rw [Bool.and_eq_true, decide_eq_true_iff, decide_eq_true_iff]
theorem Zy4 : ∀ (n u : Nat), u ≤ n → Zg3 0 (Lib.decDigits u) = u := by
 intro n
 induction n with
 | zero =>
  intro u hu
  rw [Lib.decDigits, dif_pos (by omega), ZsL, ZhL (by omega)]; omega
 | succ n ih =>
  intro u hu
  rw [Lib.decDigits]
  split
  ·rw [ZsL, ZhL (by omega)]; omega
  ·rw [Zro, ih (u / 10) (by omega), ZhL (by omega)]; omega
theorem Zxu : ∀ (n u : Nat), u ≤ n → 0 < u → ∀ c r, Lib.decDigits u = c :: r → c.toNat ≠ 48 := by
 intro n
 induction n with
 | zero => intro u hu h0; omega
 | succ n ih =>
  intro u hu h0 c r h
  rw [Lib.decDigits] at h
  split at h
  ·injection h with h; rw [← h, ZhL (by omega)]; omega
  ·cases hd : Lib.decDigits (u / 10) with
   | nil => exact absurd hd (ZrU _)
   | cons b r' =>
    rw [hd] at h
    injection h with h
    rw [← h]
    exact ih (u / 10) (by omega) (by omega) b r' hd
theorem Zwt {u : Nat} (h : u ≤ 9223372036854775807) : ZhH (Lib.decDigits u) = true := by
 cases hd : Lib.decDigits u with
 | nil => exact absurd hd (ZrU _)
 | cons c r =>
  unfold ZhH
  have hv := Zy4 u u (Nat.le_refl _)
  have hall := Zu5 u u (Nat.le_refl _)
  rw [hd] at hv hall
  have h1 : (c :: r).all ZfM = true := List.all_eq_true.2 fun x hx => (ZlF x).2 (hall x hx)
  have h2 : (r.isEmpty || !(c.toNat == 48)) = true := by
   rcases Nat.eq_zero_or_pos u with h0 | h0
   ·subst h0
    rw [Lib.decDigits, dif_pos (by omega)] at hd
    injection hd with _ hd
    rw [← hd]; rfl
   ·have := Zxu u u (Nat.le_refl _) h0 c r hd
    rw [show (c.toNat == 48) = false from by rw [beq_eq_false_iff_ne]; exact this]; simp
  simp only [h1, h2, hv, Bool.true_and]
  exact decide_eq_true h
theorem Zrs {c : UInt8} {k : Nat} (h : 48 ≤ c.toNat) (hk : k = c.toNat - 48) : UInt8.ofNat (48 + k) = c := by
 apply UInt8.toNat_inj.1
 have := c.toNat_lt
 rw [UInt8.toNat_ofNat', hk]; omega
theorem ZqP : ∀ (n : Nat) (l : List UInt8), l.length = n → l ≠ [] → (∀ x ∈ l, ZfM x = true) → (∀ c r, l = c :: r → r = [] ∨ c.toNat ≠ 48) → Lib.decDigits (Zg3 0 l) = l := by
 intro n
 induction n with
 | zero => intro l hl hne; exact absurd (List.eq_nil_of_length_eq_zero hl) hne
 | succ n ih =>
  intro l hl hne hall hh
  rcases List.eq_nil_or_concat l with h0 | ⟨b, c, hc⟩
  ·exact absurd h0 hne
  ·rw [List.concat_eq_append] at hc
   subst hc
   have hcd := (ZlF c).1 (hall c (by simp))
   rw [Zro]
   cases b with
   | nil =>
    rw [Zk0, Lib.decDigits, dif_pos (by omega), Zrs hcd.1 (by omega)]; rfl
   | cons d b =>
    have hlen : (d :: b).length = n := by simp at hl ⊢; omega
    have ZD4 : d.toNat ≠ 48 := by
     rcases hh d (b ++ [c]) rfl with h | h
     ·simp at h
     ·exact h
    have hih := ih (d :: b) hlen (by simp) (fun x hx => hall x (by simp at hx ⊢; rcases hx with h | h; exact .inl h; exact .inr (.inl h))) (fun e r he => by injection he with h1 h2; subst h1; exact .inr ZD4)
    have hpos : 0 < Zg3 0 (d :: b) := by
     have hdd := (ZlF d).1 (hall d (by simp))
     have := Zn3 b (10 * 0 + (d.toNat - 48))
     rw [Zja]; omega
    rw [Lib.decDigits, dif_neg (by omega)]
    have e1 : (10 * Zg3 0 (d :: b) + (c.toNat - 48)) / 10 = Zg3 0 (d :: b) := by omega
    have e2 : (10 * Zg3 0 (d :: b) + (c.toNat - 48)) % 10 = c.toNat - 48 := by omega
    rw [e1, e2, hih, Zrs hcd.1 rfl]
theorem Zrn {l : List UInt8} (h : ZhH l = true) : Lib.decDigits (Zg3 0 l) = l ∧ Zg3 0 l ≤ 9223372036854775807 := by
 cases l with
 | nil => cases h
 | cons c r =>
  unfold ZhH at h
  rw [Bool.and_eq_true, Bool.and_eq_true, decide_eq_true_iff, List.all_eq_true] at h
  refine ⟨ZqP _ (c :: r) rfl (by simp) h.1.2 fun d r' he => ?_, h.2⟩
  injection he with h1 h2
  subst h1 h2
  have := h.1.1
  rw [Bool.or_eq_true] at this
  rcases this with h3 | h3
  ·exact .inl (by simpa using h3)
  ·exact .inr (by simpa using h3)

theorem w64 {x : Int} (h : -9223372036854775808 ≤ x) (h' : x ≤ 9223372036854775807) : IntKind.i64.wrap x = x := IntWalk.i64_in x ⟨h, by omega⟩
theorem w8 {x : Int} (h : 0 ≤ x) (h' : x ≤ 255) : IntKind.u8.wrap x = x := by
 unfold IntKind.wrap
 simp [IntKind.bits, IntKind.signed]
 omega
theorem ZzF (s : ByteArray) (hs : s.size ≤ 1000000000) : ∀ (d k m : Nat), s.size - k = d → k ≤ s.size → m ≤ 9223372036854775807 → ZaB s ((m : Nat) : Int) k =
  some (if ((s.data.toList.drop k).all ZfM && decide (Zg3 m (s.data.toList.drop k) ≤ 9223372036854775807)) = true then (((Zg3 m (s.data.toList.drop k) : Nat) : Int), true) else (0, false)) := by
 intro d
 induction d with
 | zero =>
  intro k m hk hle hm
  rw [ZaB, if_neg (by rw [decide_eq_true_iff]; omega), List.drop_eq_nil_of_le (by rw [sz]; omega), Zk0, List.all_nil, Bool.true_and, if_pos (decide_eq_true hm)]
 | succ d ih =>
  intro k m hk hle hm
  have hlt : k < s.size := by omega
  obtain ⟨y, hy⟩ : ∃ y, s.data.toList[k]? = some y := ⟨_, List.getElem?_eq_getElem (by rw [sz]; exact hlt)⟩
  rw [ZaB, if_pos (by rw [decide_eq_true_iff]; omega), ZdZ, hy, Zm, ZzK, Zm, ZhN hy, List.all_cons, Zja]
  cases hd : ZfM y with
  | false => rw [Bool.not_false, ifT, Bool.false_and, Bool.false_and, ifF]
  | true =>
   have hdd := (ZlF y).1 hd
   have e8 : IntKind.u8.wrap (((y.toNat : Nat) : Int) - 48) = ((y.toNat - 48 : Nat) : Int) := by rw [w8 (by omega) (by omega)]; omega
   rw [Bool.not_true, ifF, Zm, e8, w64 (x := ((y.toNat - 48 : Nat) : Int)) (by omega) (by omega), w64 (x := 9223372036854775807 - ((y.toNat - 48 : Nat) : Int)) (by omega) (by omega)]
   have et : Int.tdiv (9223372036854775807 - ((y.toNat - 48 : Nat) : Int)) 10 = (9223372036854775807 - ((y.toNat - 48 : Nat) : Int)) / 10 := Int.tdiv_eq_ediv_of_nonneg (by omega)
   rw [et, w64 (x := (9223372036854775807 - ((y.toNat - 48 : Nat) : Int)) / 10) (by omega) (by omega), Bool.true_and]
   by_cases hg : 10 * m + (y.toNat - 48) ≤ 9223372036854775807
   ·rw [if_neg (by rw [decide_eq_true_iff]; omega), Zdb _ (by omega), w64 (x := 10 * ((m : Nat) : Int)) (by omega) (by omega), w64 (x := 10 * ((m : Nat) : Int) + ((y.toNat - 48 : Nat) : Int)) (by omega) (by omega)]
    have e : 10 * ((m : Nat) : Int) + ((y.toNat - 48 : Nat) : Int) = ((10 * m + (y.toNat - 48) : Nat) : Int) := by omega
    rw [e, ih (k + 1) (10 * m + (y.toNat - 48)) (by omega) (by omega) hg]
   ·rw [if_pos (by rw [decide_eq_true_iff]; omega)]
    have h1 := Zn3 (s.data.toList.drop (k + 1)) (10 * m + (y.toNat - 48))
    rw [show decide (Zg3 (10 * m + (y.toNat - 48)) (s.data.toList.drop (k + 1)) ≤ 9223372036854775807) = false from decide_eq_false (by omega), Bool.and_false, ifF]
theorem ZxR (s : ByteArray) (hs : s.size ≤ 1000000000) : Zcb s = some (if ZhH s.data.toList = true then (((Zg3 0 s.data.toList : Nat) : Int), true) else (0, false)) := by
 unfold Zcb
 rw [ZlC]
 cases hl : s.data.toList with
 | nil =>
  have h0 : s.size = 0 := by rw [← sz, hl]; rfl
  rw [decide_eq_true h0, orT, ifT]; rfl
 | cons c r =>
  have h0 : s.size = r.length + 1 := by rw [← sz, hl]; rfl
  have hb : btI s 0 = some c := by have := ZdZ s 0; rw [hl] at this; exact this
  rw [decide_eq_false (by omega), orF, hb, Zm, Zm, show (48 : Int) = ((48 : Nat) : Int) from rfl, Zdk]
  have e1 : decide (((s.size : Nat) : Int) > 1) = !r.isEmpty := by
   cases r with
   | nil => exact decide_eq_false (by simp at h0; omega)
   | cons a b => exact decide_eq_true (by simp at h0; omega)
  rw [e1]
  have e2 : ZhH (c :: r) = ((r.isEmpty || !(c.toNat == 48)) && (c :: r).all ZfM && decide (Zg3 0 (c :: r) ≤ 9223372036854775807)) := rfl
  rw [e2]
  cases hz : ((c.toNat == 48) && !r.isEmpty) with
  | true =>
   have : (r.isEmpty || !(c.toNat == 48)) = false := by revert hz; cases (c.toNat == 48) <;> cases r.isEmpty <;> simp
   rw [ifT, this, Bool.false_and, Bool.false_and, ifF]
  | false =>
   have : (r.isEmpty || !(c.toNat == 48)) = true := by revert hz; cases (c.toNat == 48) <;> cases r.isEmpty <;> simp
   have hh := ZzF s hs _ 0 0 rfl (by omega) (by omega)
   rw [ifF, this, Bool.true_and]
   rw [List.drop_zero, hl] at hh
   exact hh

def spd : List UInt8 → Option (List UInt8 × List UInt8)
 | [] => none
 | b :: l => match spd l with
  | some p => some (b :: p.1, p.2)
  | none => if b.toNat = 36 then some ([], l) else none
theorem ZrG : ∀ {l : List UInt8} {p : List UInt8 × List UInt8}, spd l = some p → ∃ b : UInt8, b.toNat = 36 ∧ l = p.1 ++ b :: p.2
 | [], p, h => by cases h
 | c :: l, p, h => by
  unfold spd at h
  cases hs : spd l with
  | some q =>
   rw [hs] at h
   injection h with h
   obtain ⟨b, hb, hl⟩ := ZrG hs
   subst h
   exact ⟨b, hb, by rw [hl]; rfl⟩
  | none =>
   rw [hs] at h
   simp only at h
   split at h
   ·injection h with h; subst h; exact ⟨c, by assumption, rfl⟩
   ·cases h
theorem Ztu (y : UInt8) : ∀ l : List UInt8, spd (l ++ [y]) = if y.toNat = 36 then some (l, []) else (spd l).map fun p => (p.1, p.2 ++ [y])
 | [] => rfl
 | b :: l => by
  rw [List.cons_append]
  unfold spd
  rw [Ztu y l]
  by_cases h : y.toNat = 36
  ·rw [if_pos h, if_pos h]
  ·rw [if_neg h, if_neg h]
   cases spd l with
   | some p => rfl
   | none =>
    simp only [Option.map_none]
    split <;> rfl
def ZsF (l : List UInt8) : Int := match spd l with
 | some p => ((p.1.length : Nat) : Int)
 | none => -1
theorem ZyK (s : ByteArray) (hs : s.size ≤ 1000000000) : ∀ k, k ≤ s.size → ZG s 36 (((k : Nat) : Int) - 1) = some (ZsF (s.data.toList.take k)) := by
 intro k
 induction k with
 | zero => intro _; rw [ZG, if_neg (by rw [decide_eq_true_iff]; omega)]; rfl
 | succ k ih =>
  intro hk
  obtain ⟨y, hy⟩ : ∃ y, s.data.toList[k]? = some y := ⟨_, List.getElem?_eq_getElem (by rw [sz]; exact hk)⟩
  have e : ((k + 1 : Nat) : Int) - 1 = ((k : Nat) : Int) := by omega
  rw [e, ZG, if_pos (by rw [decide_eq_true_iff]; omega), ZdZ, hy, Zm, show (36 : Int) = ((36 : Nat) : Int) from rfl, Zdk]
  have ht : s.data.toList.take (k + 1) = s.data.toList.take k ++ [y] := by rw [List.take_add_one, hy]; rfl
  have hl : (s.data.toList.take k).length = k := by rw [List.length_take, sz]; omega
  unfold ZsF
  rw [ht, Ztu]
  by_cases h : y.toNat = 36
  ·rw [if_pos (by rw [beq_iff_eq]; exact h), if_pos h]; simp only [hl]
  ·rw [if_neg (by rw [beq_iff_eq]; exact h), if_neg h, w64 (by omega) (by omega)]
   have := ih (by omega)
   rw [show ((36 : Nat) : Int) = 36 from rfl, this]
   unfold ZsF
   cases spd (s.data.toList.take k) <;> rfl
theorem ZAb (s : ByteArray) (hs : s.size ≤ 1000000000) : Zbx s 36 = some (ZsF s.data.toList) := by
 unfold Zbx ZaA
 rw [w64 (by omega) (by omega), ZyK s hs s.size (Nat.le_refl _), Zm, List.take_of_length_le (by rw [sz]; omega)]
def Zhm (s : ByteArray) : ByteArray × Int × Bool :=
 match spd s.data.toList with
 | some p => if (Zlp (mkB p.1) && ZhH p.2) = true then (mkB p.1, ((Zg3 0 p.2 : Nat) : Int), true) else (ByteArray.mk #[], 0, false)
 | none => (ByteArray.mk #[], 0, false)
theorem ZwQ {n : Int} (h : Zmb n) : strconv_Itoa n = some (Zqt n) := by
 unfold strconv_Itoa
 have h' : -9223372036854775808 ≤ n ∧ n ≤ 9223372036854775807 := h
 rw [Zdb _ h']
def Zu4 (b : ByteArray) (n : Int) : ByteArray := if (decide (n < 0) || !Zlp b) = true then ByteArray.mk #[] else (b ++ ByteArray.mk #[36]) ++ Zqt n
theorem ZBI {b : ByteArray} {n : Int} (hb : b.size ≤ 1000000000) (hn : Zmb n) : (Zac (((b.size + (ByteArray.mk #[36]).size : Nat) : Int) ≤ IntKind.i64.max) >>= fun _ => strconv_Itoa n >>= fun r9 =>
  Zac ((((b ++ (ByteArray.mk #[36])).size + r9.size : Nat) : Int) ≤ IntKind.i64.max) >>= fun _ => some ((b ++ (ByteArray.mk #[36])) ++ r9)) = some ((b ++ (ByteArray.mk #[36])) ++ Zqt n) := by
 have e : (ByteArray.mk #[36]).size = 1 := rfl
 have hl : (Zqt n).size ≤ 21 := by rw [← sz, ZpU]; exact Zyh hn
 have h1 : ((b.size + (ByteArray.mk #[36]).size : Nat) : Int) ≤ IntKind.i64.max := by rw [ZnU, e]; omega
 have h2 : (((b ++ (ByteArray.mk #[36])).size + (Zqt n).size : Nat) : Int) ≤ IntKind.i64.max := by rw [ZnU, Zqa, e]; omega
 rw [Zdb _ h1, ZwQ hn, Zm, Zdb _ h2]
theorem Zz1 (b : ByteArray) (n : Int) (hb : b.size ≤ 1000000000) (hn : Zmb n) : Zff b n = some (Zu4 b n) := by
 unfold Zff Zu4
 cases decide (n < 0) with
 | true => rw [orT, Bool.true_or, ifT, ifT]
 | false =>
  rw [orF, ZyP b hb, Zm, Zm, Bool.false_or]
  cases Zlp b with
  | true => rw [Bool.not_true, ifF, ifF]; exact ZBI hb hn
  | false => rw [Bool.not_false, ifT, ifT]
theorem ZtI (a : List UInt8) (b : UInt8) (r : List UInt8) : (a ++ b :: r).take a.length = a ∧ (a ++ b :: r).drop (a.length + 1) = r := by
 constructor
 ·rw [List.take_left']; rfl
 ·rw [← List.drop_drop, List.drop_left']
  ·rfl
  ·rfl
theorem ZmJ {a : List UInt8} (h : ZhH a = true) : Lib.atoiAll a = .ok ((Zg3 0 a : Nat) : Int) := by
 obtain ⟨h1, h2⟩ := Zrn h
 have := ZwF (n := ((Zg3 0 a : Nat) : Int)) ⟨by omega, by omega⟩
 unfold Lib.itoa at this
 rw [if_neg (by omega), Int.toNat_natCast, h1] at this
 exact this
theorem Zv9 {a : List UInt8} {v : Int} (h : Lib.atoiAll a = .ok v) : (¬ v < 0 ∧ Lib.itoa v = a) ↔ ZhH a = true := by
 constructor
 ·rintro ⟨h0, h1⟩
  have hr := Zqi h
  unfold Lib.itoa at h1
  rw [if_neg h0] at h1
  rw [← h1]
  exact Zwt (by unfold Zmb at hr; omega)
 ·intro hc
  rw [ZmJ hc] at h
  injection h with h
  subst h
  refine ⟨by omega, ?_⟩
  unfold Lib.itoa
  rw [if_neg (by omega), Int.toNat_natCast, (Zrn hc).1]
theorem Zt8 (s : ByteArray) (hs : s.size ≤ 1000000000) : Zek s = some (Zhm s) := by
 unfold Zek Zhm
 rw [ZAb s hs, Zm]
 unfold ZsF
 cases hd : spd s.data.toList with
 | none => rfl
 | some p =>
  obtain ⟨b, hb, hl⟩ := ZrG hd
  have hlen : s.size = p.1.length + 1 + p.2.length := by rw [← sz, hl]; simp; omega
  obtain ⟨t1, t2⟩ := ZtI p.1 b p.2
  simp only
  have ha : slS s (((p.1.length + 1 : Nat) : Int)) ((s.size : Nat) : Int) = some (mkB p.2) := by
   rw [ZmH s _ _ (by omega) (by omega)]
   congr 1
   refine Zfi ?_
   rw [ZeC, Zed, hl, t2]
   exact List.take_of_length_le (by omega)
  have hz : slS s ((0 : Nat) : Int) ((p.1.length : Nat) : Int) = some (mkB p.1) := by
   rw [ZmH s _ _ (by omega) (by omega)]
   congr 1
   refine Zfi ?_
   rw [ZeC, Zed, hl]
   exact t1
  rw [if_neg (by rw [decide_eq_true_iff]; omega), ZcM (by omega), ha, Zm]
  have hat : ZeK (mkB p.2) = some (ZvG (mkB p.2)) := by unfold ZeK; rw [Zdb _ (by rw [Zjo]; omega)]
  rw [hat, Zm, hz]
  unfold ZvG
  rw [Zed]
  have hno : ∀ e, Lib.atoiAll p.2 = e → (∀ v, e ≠ .ok v) → ZhH p.2 = false := fun e he hv => by
   cases hc : ZhH p.2 with
   | false => rfl
   | true => exact absurd (he.symm.trans (ZmJ hc)) (hv _)
  cases hat2 : Lib.atoiAll p.2
  rotate_left
  ·rw [hno _ hat2 (by simp), Bool.and_false, ifF]; rfl
  ·rw [hno _ hat2 (by simp), Bool.and_false, ifF]; rfl
  ·rename_i v
   have hr := Zqi hat2
   have hbk := Zv9 hat2
   simp only
   rw [if_neg (by simp), Zm, Zz1 _ _ (by rw [Zjo]; omega) hr, Zm]
   have ZDx : b = 36 := UInt8.toNat_inj.1 hb
   have hkey : ((Zu4 (mkB p.1) v).toList == s.toList) = (Zlp (mkB p.1) && ZhH p.2) := by
    rw [ZaL, ZaL, hl]
    unfold Zu4
    cases hst : Zlp (mkB p.1) with
    | false =>
     rw [Bool.not_false, Bool.or_true, ifT, Bool.false_and, beq_eq_false_iff_ne]
     intro h
     have := congrArg List.length h
     simp at this
    | true =>
     rw [Bool.not_true, Bool.or_false, Bool.true_and]
     by_cases hv : v < 0
     ·have hc : ZhH p.2 = false := by
       cases hc : ZhH p.2 with
       | false => rfl
       | true => exact absurd hv (hbk.2 hc).1
      rw [decide_eq_true hv, ifT, hc, beq_eq_false_iff_ne]
      intro h
      have := congrArg List.length h
      simp at this
     ·rw [decide_eq_false hv, ifF, ZkU, ZkU, Zed, ZpU]
      have e36 : (ByteArray.mk #[36]).data.toList = [36] := rfl
      rw [e36, ZDx, Bool.eq_iff_iff, beq_iff_eq, ← hbk, List.append_assoc]
      constructor
      ·intro h
       have h2 := List.append_cancel_left h
       injection h2 with _ h3
       exact ⟨hv, h3⟩
      ·rintro ⟨_, h⟩
       rw [h]; rfl
   rw [hkey]
   cases hc : (Zlp (mkB p.1) && ZhH p.2) with
   | false => rw [Bool.not_false, ifF]; rfl
   | true =>
    rw [Bool.not_true, ifT]
    rw [Bool.and_eq_true] at hc
    have hv := hat2.symm.trans (ZmJ hc.2)
    injection hv with hv
    rw [hv]; rfl

def ZDb (s : ByteArray) (ZgF : Int) : Option (ByteArray × Int × Bool) :=
 (if (decide (ZgF < 0)) = true then some true else (slS s ((0 : Nat) : Int) ZgF) >>= fun z37 =>
 ZcI z37 >>= fun r38 =>
 some (!r38)) >>= fun c39 =>
 if c39 = true then
 some ((ByteArray.mk #[]), 0, false)
 else
 (slS s (IntKind.i64.wrap (ZgF + 1)) ((s.size : Nat) : Int)) >>= fun z42 =>
 Zcb z42 >>= fun r43 =>
 if (!r43.2) = true then
 some ((ByteArray.mk #[]), 0, false)
 else
 (slS s ((0 : Nat) : Int) ZgF) >>= fun z46 =>
 some (z46, r43.1, true)
theorem ZyS (s : ByteArray) (hs : s.size ≤ 1000000000) : ∀ (d k : Nat) (ZgF : Int), s.size - k = d → k ≤ s.size → ZaF s ZgF k = ZDb s (match spd (s.data.toList.drop k) with | some p => (((k + p.1.length : Nat)) : Int) | none => ZgF) := by
 intro d
 induction d with
 | zero =>
  intro k ZgF hk hle
  rw [ZaF, if_neg (by rw [decide_eq_true_iff]; omega), List.drop_eq_nil_of_le (by rw [sz]; omega)]; rfl
 | succ d ih =>
  intro k ZgF hk hle
  have hlt : k < s.size := by omega
  obtain ⟨y, hy⟩ : ∃ y, s.data.toList[k]? = some y := ⟨_, List.getElem?_eq_getElem (by rw [sz]; exact hlt)⟩
  rw [ZaF, if_pos (by rw [decide_eq_true_iff]; omega), ZdZ, hy, Zm, show (36 : Int) = ((36 : Nat) : Int) from rfl, Zdk, ZhN hy]
  have e : spd (y :: s.data.toList.drop (k + 1)) = match spd (s.data.toList.drop (k + 1)) with | some p => some (y :: p.1, p.2) | none => if y.toNat = 36 then some ([], s.data.toList.drop (k + 1)) else none := by rw [spd]; (try (cases spd (s.data.toList.drop (k + 1)) <;> rfl))
  rw [e]
  by_cases h : y.toNat = 36
  ·rw [if_pos (by rw [beq_iff_eq]; exact h), Zdb _ (by omega), ih (k + 1) _ (by omega) (by omega), if_pos h]
   cases spd (s.data.toList.drop (k + 1)) with
   | none => rfl
   | some p => simp only [List.length_cons]; congr 1; omega
  ·rw [if_neg (by rw [beq_iff_eq]; exact h), Zdb _ (by omega), ih (k + 1) _ (by omega) (by omega), if_neg h]
   cases spd (s.data.toList.drop (k + 1)) with
   | none => rfl
   | some p => simp only [List.length_cons]; congr 1; omega
theorem Zyr (s : ByteArray) (hs : s.size ≤ 1000000000) : ZcK s = some (Zhm s) := by
 unfold ZcK Zhm
 rw [ZyS s hs _ 0 (-1) rfl (by omega), List.drop_zero]
 cases hd : spd s.data.toList with
 | none => rfl
 | some p =>
  obtain ⟨b, hb, hl⟩ := ZrG hd
  have hlen : s.size = p.1.length + 1 + p.2.length := by rw [← sz, hl]; simp; omega
  obtain ⟨t1, t2⟩ := ZtI p.1 b p.2
  have ha : slS s (((p.1.length + 1 : Nat) : Int)) ((s.size : Nat) : Int) = some (mkB p.2) := by
   rw [ZmH s _ _ (by omega) (by omega)]
   congr 1
   refine Zfi ?_
   rw [ZeC, Zed, hl, t2]
   exact List.take_of_length_le (by omega)
  have hz : slS s ((0 : Nat) : Int) ((p.1.length : Nat) : Int) = some (mkB p.1) := by
   rw [ZmH s _ _ (by omega) (by omega)]
   congr 1
   refine Zfi ?_
   rw [ZeC, Zed, hl]
   exact t1
  simp only [Nat.zero_add]
  unfold ZDb
  rw [decide_eq_false (by omega), orF, hz, Zm, ZAs _ (by rw [Zjo]; omega), Zm, Zm, ZcM (by omega), ha]
  cases Zlp (mkB p.1) with
  | false => rw [Bool.not_false, ifT, Bool.false_and, ifF]
  | true =>
   rw [Bool.not_true, ifF, Zm, ZxR _ (by rw [Zjo]; omega), Zm, Zed, Bool.true_and]
   cases ZhH p.2 with
   | false => rfl
   | true => rfl
def ZnC (s : ByteArray) : Bool := if (Zhm s).2.2 = true then Zda (Zhm s).1.data.toList == 1 else (Zda s.data.toList == 1 && !(s.toList == [102, 111, 114, 97, 108, 108]))
theorem Zr4 (s : ByteArray) (hs : s.size ≤ 1000000000) : ZcD s = some (if Zda s.data.toList = 0 then (if (Zhm s).2.2 = true then 7 else 0) else Zda s.data.toList) := by
 unfold ZcD Zda
 rw [ZzV, Zm, Zyn, ZuA, ZpV]
 cases hw : ZgH s.data.toList with
 | true =>
  obtain ⟨c, r, hl, hb⟩ := Znm (Zf0 hw).1
  have hns : ZeF.contains s.data.toList = false := by
   cases h : ZeF.contains s.data.toList with
   | false => rfl
   | true => have := Zow h; rw [Zho hw] at this; cases this
  cases ZcT.contains s.data.toList with
  | true => rfl
  | false =>
   rw [ifF, Zm, hns, ifF, Zm, hb, ZAz, Zm, ZBM, Zm, Zm, Zm, ifT, ifT, ifF]
   have hu : Zhs s.data.toList = ZgP c := by rw [hl]; rfl
   rw [hu]
   cases ZgP c <;> rfl
 | false =>
  have hnr : ZcT.contains s.data.toList = false := by
   cases h : ZcT.contains s.data.toList with
   | false => rfl
   | true => have := Zx1 h; rw [hw] at this; cases this
  rw [hnr, ifF, Zm, ifF]
  cases hsy : Zee s.data.toList with
  | true =>
   obtain ⟨c, r, hl, hb⟩ := Znm (ZkY hsy).1
   have hu : ZoU s.data.toList = (c.toNat == 58) := by rw [hl]; rfl
   rw [hu]
   cases ZeF.contains s.data.toList with
   | true => rfl
   | false =>
    rw [ifF, Zm, ZBg, ifF, Zm, ifF, Zm, hb, ZAz, Zm, show (58 : Int) = ((58 : Nat) : Int) from rfl, Zdk, Zm, Zm, ifT, ifT, ifF]
    cases (c.toNat == 58) <;> rfl
  | false =>
   have hnr2 : ZeF.contains s.data.toList = false := by
    cases h : ZeF.contains s.data.toList with
    | false => rfl
    | true => have := Zow h; rw [hsy] at this; cases this
   rw [hnr2, ifF, Zm, ZBg, ifF, Zm, ifF, Zm, ZBg, ifF, Zm, ifF, Zt8 s hs, Zm]
   cases (Zhm s).2.2 <;> rfl

theorem ZnD (s : ByteArray) : (Zhm s).1.size ≤ s.size := by
 unfold Zhm
 cases hd : spd s.data.toList with
 | none => exact Nat.zero_le _
 | some p =>
  obtain ⟨b, hb, hl⟩ := ZrG hd
  have hlen : s.size = p.1.length + 1 + p.2.length := by rw [← sz, hl]; simp; omega
  simp only
  split
  ·show (mkB p.1).size ≤ _; rw [Zjo]; omega
  ·exact Nat.zero_le _
theorem ZuX : ∀ {l : List UInt8} {p : List UInt8 × List UInt8}, spl l = some p → p.1.length + p.2.length < l.length
 | [], p, h => by cases h
 | b :: l, p, h => by
  unfold spl at h
  split at h
  ·injection h with h; subst h; simp
  ·obtain ⟨q, hq, rfl⟩ := Option.map_eq_some_iff.1 h
   have := ZuX hq
   simp only [List.length_cons]; omega
theorem ZuB (s : ByteArray) : (ZgZ s).2.1.size ≤ s.size := by
 unfold ZgZ
 cases hd : spl s.data.toList with
 | none => exact Nat.zero_le _
 | some p =>
  have := ZuX hd
  rw [sz] at this
  simp only
  split
  ·show (mkB p.2).size ≤ _; rw [Zjo]; omega
  ·exact Nat.zero_le _
theorem Zsi (s : ByteArray) (k : Int) (h0 : k ≠ 0) (h7 : k ≠ 7) : ((if Zda s.data.toList = 0 then (if (Zhm s).2.2 = true then (7 : Int) else 0) else Zda s.data.toList) == k) = (Zda s.data.toList == k) := by
 by_cases h : Zda s.data.toList = 0
 ·rw [if_pos h, h]
  have e0 : ((0 : Int) == k) = false := by rw [beq_eq_false_iff_ne]; exact fun e => h0 e.symm
  have e7 : ((7 : Int) == k) = false := by rw [beq_eq_false_iff_ne]; exact fun e => h7 e.symm
  split
  ·rw [e7, e0]
  ·rfl
 ·rw [if_neg h]
theorem Zw9 (s : ByteArray) (hs : s.size ≤ 1000000000) : ZaG s = some (ZnC s) := by
 unfold ZaG ZnC
 rw [Zt8 s hs, Zm]
 cases (Zhm s).2.2 with
 | true =>
  have := ZnD s
  rw [ifT, ifT, Zr4 _ (by omega), Zm, Zsi _ 1 (by decide) (by decide)]
 | false =>
  rw [ifF, ifF, Zr4 _ hs, Zm, Zsi _ 1 (by decide) (by decide), ZaL (ByteArray.mk #[102, 111, 114, 97, 108, 108])]
theorem ZCd (s : ByteArray) (hs : s.size ≤ 1000000000) : ZbU s = some (ZnC s) := by
 unfold ZbU ZnC
 rw [Zyr s hs, Zm]
 cases (Zhm s).2.2 with
 | true => rw [ifT, ifT, ZkM, Zm]
 | false => rw [ifF, ifF, ZkM, Zm, ZaL (ByteArray.mk #[102, 111, 114, 97, 108, 108])]
def unS (b : ByteArray) : ByteArray := if (ZgZ b).2.2 = true then (ZgZ b).2.1 else b
def Zt0 (s : ByteArray) : Bool :=
 let b := unS (if (Zhm s).2.2 = true then (Zhm s).1 else s)
 (Zda b.data.toList == 2) || (Zda b.data.toList == 4)
theorem ZxQ (b : ByteArray) (hs : b.size ≤ 1000000000) : Zct b = some ((Zda b.data.toList == 2) || (Zda b.data.toList == 4)) := by
 unfold Zct
 rw [Zr4 b hs, Zm, Zsi _ 2 (by decide) (by decide), Zsi _ 4 (by decide) (by decide)]
theorem Zyw (b : ByteArray) (hs : b.size ≤ 1000000000) : Zcq b = some ((Zda (unS b).data.toList == 2) || (Zda (unS b).data.toList == 4)) := by
 unfold Zcq unS
 rw [Zvf b hs, Zm]
 cases (ZgZ b).2.2 with
 | true => have := ZuB b; rw [ifT, ifT, ZxQ _ (by omega)]
 | false => rw [ifF, ifF, ZxQ _ hs]
theorem ZCz (s : ByteArray) (hs : s.size ≤ 1000000000) : ZdM s = some (Zt0 s) := by
 unfold ZdM Zt0
 rw [Zt8 s hs, Zm]
 cases (Zhm s).2.2 with
 | true => have := ZnD s; rw [ifT, Zyw _ (by omega)]; rfl
 | false => rw [ifF, Zyw _ hs]; rfl
theorem Zya (b : ByteArray) : ZaU b = some ((Zda b.data.toList == 2) || (Zda b.data.toList == 4)) := by
 unfold ZaU
 rw [ZkM, Zm]
theorem ZyN (b : ByteArray) (hs : b.size ≤ 1000000000) : ZaS b = some ((Zda (unS b).data.toList == 2) || (Zda (unS b).data.toList == 4)) := by
 unfold ZaS unS
 rw [ZvZ b hs, Zm]
 cases (ZgZ b).2.2 with
 | true => rw [ifT, ifT, Zya]
 | false => rw [ifF, ifF, Zya]
theorem ZC8 (s : ByteArray) (hs : s.size ≤ 1000000000) : Zb7 s = some (Zt0 s) := by
 unfold Zb7 Zt0
 rw [Zyr s hs, Zm]
 cases (Zhm s).2.2 with
 | true => have := ZnD s; rw [Bool.not_true, ifF, ZyN _ (by omega)]; rfl
 | false => rw [Bool.not_false, ifT, ZyN _ hs]; rfl

theorem ZAE {s : ByteArray} {k : Nat} {y : UInt8} (h : s.data.toList[k]? = some y) : s.get! k = y := by
 obtain ⟨h1, h2⟩ := List.getElem?_eq_some_iff.1 h
 have hk : k < s.data.size := by simpa using h1
 show s.data[k]! = y
 rw [getElem!_pos s.data k hk]
 simpa using h2
theorem ZwR (s : ByteArray) {k : Nat} {y : UInt8} (h : s.data.toList[k]? = some y) : ((Utf8.decode s k).1 = 44 ↔ y.toNat = 44) ∧ (y.toNat = 44 → (Utf8.decode s k).2 = 1) := by
 have hy := ZAE h
 have hre : Utf8.runeError ≠ 44 := by decide
 unfold Utf8.decode
 simp only [Nat.add_zero, hy]
 by_cases h1 : y.toNat < 128
 ·rw [if_pos h1]; exact ⟨Iff.rfl, fun _ => rfl⟩
 ·rw [if_neg h1]
  refine ⟨⟨fun h2 => ?_, fun h2 => by omega⟩, fun h2 => by omega⟩
  exfalso
  revert h2
  repeat' split
  all_goals first | (intro h2; exact hre h2) | (intro h2; simp only at h2; simp_all; done) | (intro h2; simp only at h2; rename_i q; simp only [Bool.and_eq_true, decide_eq_true_iff] at q; omega) | (intro h2; simp only at h2; rename_i q; omega)
theorem Zzg (z : ByteArray) : ∀ (d k : Nat), z.size - k = d → ZbE z k = some ((z.data.toList.drop k).all fun c => c.toNat == 44) := by
 intro d
 induction d with
 | zero =>
  intro k hk
  rw [ZbE, if_neg (by rw [decide_eq_true_iff]; omega), List.drop_eq_nil_of_le (by rw [sz]; omega)]; rfl
 | succ d ih =>
  intro k hk
  obtain ⟨y, hy⟩ : ∃ y, z.data.toList[k]? = some y := ⟨_, List.getElem?_eq_getElem (by rw [sz]; omega)⟩
  obtain ⟨h1, h2⟩ := ZwR z hy
  rw [ZbE, if_pos (by rw [decide_eq_true_iff]; omega), ZhN hy, List.all_cons, show (44 : Int) = ((44 : Nat) : Int) from rfl, bne, Zdk]
  by_cases h : y.toNat = 44
  ·rw [h1.2 h, h2 h, ih (k + 1) (by omega), h]; rfl
  ·have e : ((Utf8.decode z k).1 == 44) = false := by rw [beq_eq_false_iff_ne]; exact fun q => h (h1.1 q)
   have e2 : (y.toNat == 44) = false := by rw [beq_eq_false_iff_ne]; exact h
   rw [e, e2]; rfl

def Zr6 (j : Nat) : List UInt8 := 40 :: (List.replicate j 44 ++ [41])
theorem ZsX (j : Nat) : (Zr6 j).length = j + 2 := by unfold Zr6; simp
def ZqI (l : List UInt8) : Bool := (List.range 6).any fun j => l == Zr6 (j + 1)
theorem shape {l : List UInt8} {a b : UInt8} (h3 : 3 ≤ l.length) (ha : l[0]? = some a) (hb : l[l.length - 1]? = some b) : l = a :: ((l.drop 1).take (l.length - 2) ++ [b]) := by
 cases l with
 | nil => simp at h3
 | cons c t =>
  have hc : c = a := by simpa using ha
  subst hc
  have ht : t ≠ [] := by intro h; subst h; simp at h3
  have hlast : t.getLast ht = b := by
   rw [List.getLast_eq_getElem]
   have : (c :: t)[(c :: t).length - 1]? = t[t.length - 1]? := by
    have e : (c :: t).length - 1 = (t.length - 1) + 1 := by simp only [List.length_cons] at h3 ⊢; omega
    rw [e, List.getElem?_cons_succ]
   rw [this] at hb
   exact (List.getElem?_eq_some_iff.1 hb).2
  have e2 : (c :: t).length - 2 = t.length - 1 := by simp only [List.length_cons]; omega
  rw [e2]
  show c :: t = c :: (t.take (t.length - 1) ++ [b])
  rw [← List.dropLast_eq_take, ← hlast, List.dropLast_concat_getLast]
theorem Zzn {l : List UInt8} {a b : UInt8} (h3 : 3 ≤ l.length) (h8 : l.length ≤ 8) (ha : l[0]? = some a) (hb : l[l.length - 1]? = some b) :
  ZqI l = (a.toNat == 40 && b.toNat == 41 && ((l.drop 1).take (l.length - 2)).all fun c => c.toNat == 44) := by
 have hs := shape h3 ha hb
 have hml : ((l.drop 1).take (l.length - 2)).length = l.length - 2 := by rw [List.length_take, List.length_drop]; omega
 rw [Bool.eq_iff_iff]
 unfold ZqI
 rw [List.any_eq_true, Bool.and_eq_true, Bool.and_eq_true, beq_iff_eq, beq_iff_eq, List.all_eq_true]
 constructor
 ·rintro ⟨j, hj, h⟩
  rw [beq_iff_eq] at h
  have hl := congrArg List.length h
  rw [ZsX] at hl
  have hj2 : l.length - 2 = j + 1 := by omega
  rw [hj2] at hs ⊢
  rw [h] at hs
  unfold Zr6 at hs
  injection hs with h1 h2
  have h4 := List.append_inj h2 (by rw [List.length_replicate, List.length_take, List.length_drop]; simp)
  refine ⟨⟨by rw [← h1]; rfl, ?_⟩, fun x hx => ?_⟩
  ·have := h4.2; injection this with h5; rw [← h5]; rfl
  ·rw [h] at hx
   unfold Zr6 at hx
   rw [← h4.1] at hx
   rw [List.eq_of_mem_replicate hx]; rfl
 ·rintro ⟨⟨h1, h2⟩, h4⟩
  refine ⟨l.length - 3, List.mem_range.2 (by omega), ?_⟩
  rw [beq_iff_eq]
  have ZD6 : a = 40 := UInt8.toNat_inj.1 h1
  have ZDU : b = 41 := UInt8.toNat_inj.1 h2
  have hm : (l.drop 1).take (l.length - 2) = List.replicate (l.length - 2) 44 := by
   refine List.eq_replicate_iff.2 ⟨hml, fun x hx => ?_⟩
   have := h4 x hx
   rw [beq_iff_eq] at this
   exact UInt8.toNat_inj.1 this
  rw [hm, ZD6, ZDU] at hs
  unfold Zr6
  rw [show l.length - 3 + 1 = l.length - 2 from by omega]
  exact hs
def ZsT (l : List UInt8) : Bool := (l == [45, 62] || l == [91, 93]) || l == [40, 41]
theorem ZDc (s : ByteArray) (hs : s.size ≤ 1000000000) : ZdN s = some (ZsT s.data.toList || ZqI s.data.toList) := by
 unfold ZdN
 have e0 : (((s.toList == (ByteArray.mk #[45, 62]).toList) || (s.toList == (ByteArray.mk #[91, 93]).toList)) || (s.toList == (ByteArray.mk #[40, 41]).toList)) = ZsT s.data.toList := by
  rw [ZaL, ZaL, ZaL, ZaL]; rfl
 rw [e0]
 cases ZsT s.data.toList with
 | true => rfl
 | false =>
  rw [ifF, Bool.false_or]
  by_cases hn : 3 ≤ s.size ∧ s.size ≤ 8
  ·have hlen : s.data.toList.length = s.size := sz s
   obtain ⟨a, ha⟩ : ∃ a, s.data.toList[0]? = some a := ⟨_, List.getElem?_eq_getElem (by omega)⟩
   obtain ⟨b, hb⟩ : ∃ b, s.data.toList[s.size - 1]? = some b := ⟨_, List.getElem?_eq_getElem (by omega)⟩
   have hc : (decide (((s.size : Nat) : Int) < 3) || decide (((s.size : Nat) : Int) > 8)) = false := by
    rw [Bool.or_eq_false_iff]; exact ⟨decide_eq_false (by omega), decide_eq_false (by omega)⟩
   have hb0 : btI s 0 = some a := by have := ZdZ s 0; rw [ha] at this; exact this
   have e1 : IntKind.i64.wrap (((s.size : Nat) : Int) - 1) = ((s.size - 1 : Nat) : Int) := by rw [w64 (by omega) (by omega)]; omega
   rw [Zzn (by omega) (by omega) ha (by rw [hlen]; exact hb), hc, orF, hb0, Zm, Zm, show (40 : Int) = ((40 : Nat) : Int) from rfl, bne, Zdk]
   cases h40 : (a.toNat == 40) with
   | false => rw [Bool.not_false, orT, ifT]; rfl
   | true =>
    rw [Bool.not_true, orF, e1, ZdZ, hb, Zm, Zm, show (41 : Int) = ((41 : Nat) : Int) from rfl, bne, Zdk]
    cases h41 : (b.toNat == 41) with
    | false => rw [Bool.not_false, ifT]; rfl
    | true =>
     have hsl : slS s 1 ((s.size - 1 : Nat) : Int) = some (s.extract 1 (s.size - 1)) := ZmH s 1 (s.size - 1) (by omega) (by omega)
     rw [Bool.not_true, ifF, hsl, Zm, Zzg _ _ 0 rfl, List.drop_zero, ZeC, hlen, show s.size - 1 - 1 = s.size - 2 from by omega]; rfl
  ·have hc : (decide (((s.size : Nat) : Int) < 3) || decide (((s.size : Nat) : Int) > 8)) = true := by
    rw [Bool.or_eq_true, decide_eq_true_iff, decide_eq_true_iff]; omega
   rw [hc, orT, orT, ifT]
   have : ZqI s.data.toList = false := by
    cases h : ZqI s.data.toList with
    | false => rfl
    | true =>
     unfold ZqI at h
     rw [List.any_eq_true] at h
     obtain ⟨j, hj, h⟩ := h
     rw [beq_iff_eq] at h
     have hl := congrArg List.length h
     rw [ZsX, sz] at hl
     have := List.mem_range.1 hj
     omega
   rw [this]

theorem ZDz (n : Nat) (hn : n ≤ 1000) : ∀ (d i : Nat) (s : ByteArray), n - i = d → i ≤ n → s.size ≤ i + 1 → Zah ((n : Nat) : Int) s i = some (mkB (s.data.toList ++ (List.replicate (n - i) 44 ++ [41]))) := by
 have e41 : (ByteArray.mk #[41]).size = 1 := rfl
 have e44 : (ByteArray.mk #[44]).size = 1 := rfl
 intro d
 induction d with
 | zero =>
  intro i s hd hi hs
  rw [Zah, if_neg (by rw [decide_eq_true_iff]; omega), Zdb _ (by rw [ZnU, e41]; omega), show n - i = 0 from by omega]
  exact congrArg some (Zfi (by rw [ZkU, Zed]; rfl))
 | succ d ih =>
  intro i s hd hi hs
  rw [Zah, if_pos (by rw [decide_eq_true_iff]; omega), Zdb _ (by rw [ZnU, e44]; omega), Zdb _ (by omega), ih (i + 1) _ (by omega) (by omega) (by rw [Zqa, e44]; omega)]
  congr 2
  rw [ZkU, show n - i = (n - (i + 1)) + 1 from by omega, List.replicate_succ, List.append_assoc]; rfl
theorem tn (n : Nat) (h1 : 1 ≤ n) (hn : n ≤ 1000) : ZbO ((n : Nat) : Int) = some (mkB (Zr6 (n - 1))) := by
 unfold ZbO
 rw [ZDz n hn _ 1 _ rfl h1 (by decide)]
 rfl
theorem ZDK (s : ByteArray) : ∀ (d k : Nat), 8 - k = d → 2 ≤ k → k ≤ 8 → ∃ r, ZaQ s k = some r ∧ decide (r > 0) = (List.range' k (8 - k)).any fun j => s.data.toList == Zr6 (j - 1) := by
 intro d
 induction d with
 | zero =>
  intro k hd h2 h8
  refine ⟨0, ?_, ?_⟩
  ·rw [ZaQ, if_neg (by rw [decide_eq_true_iff]; omega)]
  ·rw [hd]; rfl
 | succ d ih =>
  intro k hd h2 h8
  obtain ⟨r, hr, hr2⟩ := ih (k + 1) (by omega) (by omega) (by omega)
  rw [ZaQ, if_pos (by rw [decide_eq_true_iff]; omega), tn k (by omega) (by omega), Zm, ZaL, ZaL, Zed]
  have e : List.range' k (8 - k) = k :: List.range' (k + 1) (8 - (k + 1)) := by rw [show 8 - k = (8 - (k + 1)) + 1 from by omega]; exact List.range'_succ ..
  rw [e, List.any_cons]
  cases h : (s.data.toList == Zr6 (k - 1)) with
  | true => exact ⟨_, by rw [ifT], by rw [Bool.true_or]; exact decide_eq_true (by omega)⟩
  | false => exact ⟨r, by rw [ifF, Zdb _ (by omega), hr], by rw [Bool.false_or, hr2]⟩
theorem Zy5 (s : ByteArray) : ∃ r, Zdh s = some r ∧ decide (r > 0) = ZqI s.data.toList := by
 obtain ⟨r, h1, h2⟩ := ZDK s 6 2 rfl (by omega) (by omega)
 refine ⟨r, h1, h2.trans ?_⟩
 unfold ZqI
 rfl
def ZwM (s : ByteArray) : Bool := (ZsT s.data.toList || ZqI s.data.toList) || Zt0 s
theorem ZCs (s : ByteArray) (hs : s.size ≤ 1000000000) : Zcm s = some (ZwM s) := by
 unfold Zcm ZwM
 have e0 : ∀ o : Bool, (((o || (s.toList == (ByteArray.mk #[45, 62]).toList)) || (s.toList == (ByteArray.mk #[91, 93]).toList)) || (s.toList == (ByteArray.mk #[40, 41]).toList)) = (o || ZsT s.data.toList) := fun o => by
  rw [ZaL, ZaL, ZaL, ZaL]
  unfold ZsT
  simp only [Bool.or_assoc]
 obtain ⟨r, h1, h2⟩ := Zy5 s
 rw [ZC8 s hs, Zm, e0, h1]
 cases Zt0 s with
 | true => rw [Bool.true_or, orT, Bool.or_true]
 | false =>
  rw [Bool.false_or, Bool.or_false]
  cases ZsT s.data.toList with
  | true => rfl
  | false => rw [orF, Zm, Zm, h2, Bool.false_or]

mutual
def Za.nod : Za → Nat | .mk _ _ _ ks => 1 + Za.nods ks
def Za.nods : List Za → Nat
 | [] => 0
 | k :: ks => Za.nod k + Za.nods ks
end
mutual
def Zi.nod : Zi → Nat | .mk ks => 1 + Zi.nods ks
def Zi.nods : List Zi → Nat
 | [] => 0
 | k :: ks => Zi.nod k + Zi.nods ks
end
theorem Zoc (t : Za) : t.nod = 1 + Za.nods t.fKids := by cases t; rw [Za.nod]; rfl
theorem ZjB (t : Zi) : t.nod = 1 + Zi.nods t.fArgs := by cases t; rw [Zi.nod]; rfl
theorem Zf8 (k : Za) (ks : List Za) : Za.nods (k :: ks) = k.nod + Za.nods ks := by rw [Za.nods]
theorem ZfV (k : Zi) (ks : List Zi) : Zi.nods (k :: ks) = k.nod + Zi.nods ks := by rw [Zi.nods]
def BIG : Nat := 1000000000000
theorem Ztv (t : Za) : ∀ (xs : List Za) (n x : Nat), (∀ k ∈ xs, k.nod ≤ BIG → Zca k = some ((k.nod : Nat) : Int)) → n + Za.nods xs ≤ BIG → ZcS ((n : Nat) : Int) t x xs = some ((n + Za.nods xs : Nat) : Int)
 | [], n, x, _, _ => by rw [ZcS, Za.nods]; rfl
 | k :: xs, n, x, h, hb => by
  rw [Zf8] at hb ⊢
  have hB : BIG = 1000000000000 := rfl
  rw [ZcS, h k (by simp) (by omega), Zm, w64 (by omega) (by omega)]
  have := Ztv t xs (n + k.nod) (x + 1) (fun j hj => h j (by simp [hj])) (by omega)
  rw [show ((n : Nat) : Int) + ((k.nod : Nat) : Int) = ((n + k.nod : Nat) : Int) from by omega, this, Nat.add_assoc]
theorem Zyz (t : Za) : t.nod ≤ BIG → Zca t = some ((t.nod : Nat) : Int) := by
 refine Za.ind (M := fun t => t.nod ≤ BIG → Zca t = some ((t.nod : Nat) : Int)) (fun v ih hb => ?_) t
 rw [Zoc] at hb ⊢
 rw [Zca]
 exact Ztv v v.fKids 1 0 ih hb
theorem ZsJ (t : Za) : ∀ (xs : List Za) (n x : Nat), (∀ k ∈ xs, k.nod ≤ BIG → ZaE k = some ((k.nod : Nat) : Int)) → n + Za.nods xs ≤ BIG → Zbr ((n : Nat) : Int) x t xs = some ((n + Za.nods xs : Nat) : Int)
 | [], n, x, _, _ => by rw [Zbr, Za.nods]; rfl
 | k :: xs, n, x, h, hb => by
  rw [Zf8] at hb ⊢
  have hB : BIG = 1000000000000 := rfl
  rw [Zbr, h k (by simp) (by omega), Zm, w64 (by omega) (by omega)]
  have := ZsJ t xs (n + k.nod) (x + 1) (fun j hj => h j (by simp [hj])) (by omega)
  rw [show ((n : Nat) : Int) + ((k.nod : Nat) : Int) = ((n + k.nod : Nat) : Int) from by omega, this, Nat.add_assoc]
theorem Zw5 (t : Za) : t.nod ≤ BIG → ZaE t = some ((t.nod : Nat) : Int) := by
 refine Za.ind (M := fun t => t.nod ≤ BIG → ZaE t = some ((t.nod : Nat) : Int)) (fun v ih hb => ?_) t
 rw [Zoc] at hb ⊢
 rw [ZaE]
 exact ZsJ v v.fKids 1 0 ih hb
theorem Zrj (t : Zi) : ∀ (xs : List Zi) (n x : Nat), (∀ k ∈ xs, k.nod ≤ BIG → Zbl k = some ((k.nod : Nat) : Int)) → n + Zi.nods xs ≤ BIG → ZbM ((n : Nat) : Int) t x xs = some ((n + Zi.nods xs : Nat) : Int)
 | [], n, x, _, _ => by rw [ZbM, Zi.nods]; rfl
 | k :: xs, n, x, h, hb => by
  rw [ZfV] at hb ⊢
  have hB : BIG = 1000000000000 := rfl
  rw [ZbM, h k (by simp) (by omega), Zm, w64 (by omega) (by omega)]
  have := Zrj t xs (n + k.nod) (x + 1) (fun j hj => h j (by simp [hj])) (by omega)
  rw [show ((n : Nat) : Int) + ((k.nod : Nat) : Int) = ((n + k.nod : Nat) : Int) from by omega, this, Nat.add_assoc]
theorem Zzp (t : Zi) : t.nod ≤ BIG → Zbl t = some ((t.nod : Nat) : Int) := by
 refine Zi.ind (M := fun t => t.nod ≤ BIG → Zbl t = some ((t.nod : Nat) : Int)) (fun v ih hb => ?_) t
 rw [ZjB] at hb ⊢
 rw [Zbl]
 exact Zrj v v.fArgs 1 0 ih hb
theorem Zrm (t : Zi) : ∀ (xs : List Zi) (n x : Nat), (∀ k ∈ xs, k.nod ≤ BIG → Zaf k = some ((k.nod : Nat) : Int)) → n + Zi.nods xs ≤ BIG → Zax ((n : Nat) : Int) x t xs = some ((n + Zi.nods xs : Nat) : Int)
 | [], n, x, _, _ => by rw [Zax, Zi.nods]; rfl
 | k :: xs, n, x, h, hb => by
  rw [ZfV] at hb ⊢
  have hB : BIG = 1000000000000 := rfl
  rw [Zax, h k (by simp) (by omega), Zm, w64 (by omega) (by omega)]
  have := Zrm t xs (n + k.nod) (x + 1) (fun j hj => h j (by simp [hj])) (by omega)
  rw [show ((n : Nat) : Int) + ((k.nod : Nat) : Int) = ((n + k.nod : Nat) : Int) from by omega, this, Nat.add_assoc]
theorem Zzr (t : Zi) : t.nod ≤ BIG → Zaf t = some ((t.nod : Nat) : Int) := by
 refine Zi.ind (M := fun t => t.nod ≤ BIG → Zaf t = some ((t.nod : Nat) : Int)) (fun v ih hb => ?_) t
 rw [ZjB] at hb ⊢
 rw [Zaf]
 exact Zrm v v.fArgs 1 0 ih hb

mutual
def Za.dep : Za → Nat | .mk _ _ _ ks => Za.deps ks + 1
def Za.deps : List Za → Nat
 | [] => 0
 | k :: ks => max (Za.dep k) (Za.deps ks)
end
mutual
def Zi.dep : Zi → Nat | .mk ks => Zi.deps ks + 1
def Zi.deps : List Zi → Nat
 | [] => 0
 | k :: ks => max (Zi.dep k) (Zi.deps ks)
end
theorem Zt4 (t : Za) : t.dep = Za.deps t.fKids + 1 := by cases t; rw [Za.dep]; rfl
theorem ZrY (t : Zi) : t.dep = Zi.deps t.fArgs + 1 := by cases t; rw [Zi.dep]; rfl
theorem Zjs (k : Za) (ks : List Za) : Za.deps (k :: ks) = max k.dep (Za.deps ks) := by rw [Za.deps]
theorem ZmF (k : Zi) (ks : List Zi) : Zi.deps (k :: ks) = max k.dep (Zi.deps ks) := by rw [Zi.deps]
theorem ZvN (t : Za) : t.dep ≤ t.nod := by
 refine Za.ind (M := fun t => t.dep ≤ t.nod) (fun v ih => ?_) t
 have key : ∀ l : List Za, (∀ k ∈ l, k.dep ≤ k.nod) → Za.deps l ≤ Za.nods l := fun l => by
  induction l with
  | nil => intro _; rw [Za.deps, Za.nods]; exact Nat.le_refl _
  | cons k ks ihl => intro h; rw [Zjs, Zf8]; have h1 := h k (by simp); have h2 := ihl fun j hj => h j (by simp [hj]); omega
 have := key v.fKids ih
 rw [Zt4, Zoc]; omega
theorem ZtE (t : Zi) : t.dep ≤ t.nod := by
 refine Zi.ind (M := fun t => t.dep ≤ t.nod) (fun v ih => ?_) t
 have key : ∀ l : List Zi, (∀ k ∈ l, k.dep ≤ k.nod) → Zi.deps l ≤ Zi.nods l := fun l => by
  induction l with
  | nil => intro _; rw [Zi.deps, Zi.nods]; exact Nat.le_refl _
  | cons k ks ihl => intro h; rw [ZmF, ZfV]; have h1 := h k (by simp); have h2 := ihl fun j hj => h j (by simp [hj]); omega
 have := key v.fArgs ih
 rw [ZrY, ZjB]; omega
theorem Zha (a b : Nat) : (if ((a : Nat) : Int) > ((b : Nat) : Int) then ((a : Nat) : Int) else ((b : Nat) : Int)) = ((max b a : Nat) : Int) := by
 split <;> omega
theorem Zrz (t : Za) : ∀ (xs : List Za) (n x : Nat), (∀ k ∈ xs, k.nod ≤ BIG → ZbP k = some ((k.dep : Nat) : Int)) → Za.nods xs ≤ BIG → n ≤ BIG → ZcG ((n : Nat) : Int) t x xs = some ((max n (Za.deps xs) + 1 : Nat) : Int)
 | [], n, x, _, _, hn => by
  have hB : BIG = 1000000000000 := rfl
  rw [ZcG, Za.deps, w64 (by omega) (by omega)]
  rw [Nat.max_eq_left (Nat.zero_le _)]; rfl
 | k :: xs, n, x, h, hb, hn => by
  rw [Zf8] at hb
  rw [Zjs]
  have hd := ZvN k
  have hB : BIG = 1000000000000 := rfl
  rw [ZcG, h k (by simp) (by omega), Zm, Zha]
  rw [Zrz t xs (max n k.dep) (x + 1) (fun j hj => h j (by simp [hj])) (by omega) (by omega), Nat.max_assoc]
theorem Zu1 (t : Za) : t.nod ≤ BIG → ZbP t = some ((t.dep : Nat) : Int) := by
 refine Za.ind (M := fun t => t.nod ≤ BIG → ZbP t = some ((t.dep : Nat) : Int)) (fun v ih hb => ?_) t
 rw [Zoc] at hb
 rw [Zt4, ZbP]
 have := Zrz v v.fKids 0 0 ih (by omega) (Nat.zero_le _)
 rw [Nat.max_eq_right (Nat.zero_le _)] at this
 exact this
theorem Zq7 (t : Za) : ∀ (xs : List Za) (n x : Nat), (∀ k ∈ xs, k.nod ≤ BIG → Zau k = some ((k.dep : Nat) : Int)) → Za.nods xs ≤ BIG → n ≤ BIG → Zbd ((n : Nat) : Int) x t xs = some ((max n (Za.deps xs) + 1 : Nat) : Int)
 | [], n, x, _, _, hn => by
  have hB : BIG = 1000000000000 := rfl
  rw [Zbd, Za.deps, w64 (by omega) (by omega)]
  rw [Nat.max_eq_left (Nat.zero_le _)]; rfl
 | k :: xs, n, x, h, hb, hn => by
  rw [Zf8] at hb
  rw [Zjs]
  have hd := ZvN k
  have hB : BIG = 1000000000000 := rfl
  rw [Zbd, h k (by simp) (by omega), Zm, Zha]
  rw [Zq7 t xs (max n k.dep) (x + 1) (fun j hj => h j (by simp [hj])) (by omega) (by omega), Nat.max_assoc]
theorem ZvS (t : Za) : t.nod ≤ BIG → Zau t = some ((t.dep : Nat) : Int) := by
 refine Za.ind (M := fun t => t.nod ≤ BIG → Zau t = some ((t.dep : Nat) : Int)) (fun v ih hb => ?_) t
 rw [Zoc] at hb
 rw [Zt4, Zau]
 have := Zq7 v v.fKids 0 0 ih (by omega) (Nat.zero_le _)
 rw [Nat.max_eq_right (Nat.zero_le _)] at this
 exact this
theorem Zpi (t : Zi) : ∀ (xs : List Zi) (n x : Nat), (∀ k ∈ xs, k.nod ≤ BIG → Za3 k = some ((k.dep : Nat) : Int)) → Zi.nods xs ≤ BIG → n ≤ BIG → Zbu ((n : Nat) : Int) t x xs = some ((max n (Zi.deps xs) + 1 : Nat) : Int)
 | [], n, x, _, _, hn => by
  have hB : BIG = 1000000000000 := rfl
  rw [Zbu, Zi.deps, w64 (by omega) (by omega)]
  rw [Nat.max_eq_left (Nat.zero_le _)]; rfl
 | k :: xs, n, x, h, hb, hn => by
  rw [ZfV] at hb
  rw [ZmF]
  have hd := ZtE k
  have hB : BIG = 1000000000000 := rfl
  rw [Zbu, h k (by simp) (by omega), Zm, Zha]
  rw [Zpi t xs (max n k.dep) (x + 1) (fun j hj => h j (by simp [hj])) (by omega) (by omega), Nat.max_assoc]
theorem Zx3 (t : Zi) : t.nod ≤ BIG → Za3 t = some ((t.dep : Nat) : Int) := by
 refine Zi.ind (M := fun t => t.nod ≤ BIG → Za3 t = some ((t.dep : Nat) : Int)) (fun v ih hb => ?_) t
 rw [ZjB] at hb
 rw [ZrY, Za3]
 have := Zpi v v.fArgs 0 0 ih (by omega) (Nat.zero_le _)
 rw [Nat.max_eq_right (Nat.zero_le _)] at this
 exact this
theorem Zqb (t : Zi) : ∀ (xs : List Zi) (n x : Nat), (∀ k ∈ xs, k.nod ≤ BIG → Zab k = some ((k.dep : Nat) : Int)) → Zi.nods xs ≤ BIG → n ≤ BIG → Zar ((n : Nat) : Int) x t xs = some ((max n (Zi.deps xs) + 1 : Nat) : Int)
 | [], n, x, _, _, hn => by
  have hB : BIG = 1000000000000 := rfl
  rw [Zar, Zi.deps, w64 (by omega) (by omega)]
  rw [Nat.max_eq_left (Nat.zero_le _)]; rfl
 | k :: xs, n, x, h, hb, hn => by
  rw [ZfV] at hb
  rw [ZmF]
  have hd := ZtE k
  have hB : BIG = 1000000000000 := rfl
  rw [Zar, h k (by simp) (by omega), Zm, Zha]
  rw [Zqb t xs (max n k.dep) (x + 1) (fun j hj => h j (by simp [hj])) (by omega) (by omega), Nat.max_assoc]
theorem Zyg (t : Zi) : t.nod ≤ BIG → Zab t = some ((t.dep : Nat) : Int) := by
 refine Zi.ind (M := fun t => t.nod ≤ BIG → Zab t = some ((t.dep : Nat) : Int)) (fun v ih hb => ?_) t
 rw [ZjB] at hb
 rw [ZrY, Zab]
 have := Zqb v v.fArgs 0 0 ih (by omega) (Nat.zero_le _)
 rw [Nat.max_eq_right (Nat.zero_le _)] at this
 exact this

mutual
def Za.vol : Za → Nat | .mk _ s b ks => 1 + s.size + b.nod + Za.vols ks
def Za.vols : List Za → Nat
 | [] => 0
 | k :: ks => Za.vol k + Za.vols ks
end
mutual
def Za.gks : Za → Nat | .mk _ _ b ks => max b.nod (Za.gkss ks)
def Za.gkss : List Za → Nat
 | [] => 0
 | k :: ks => max (Za.gks k) (Za.gkss ks)
end
mutual
def Za.gkd : Za → Nat | .mk _ _ b ks => max b.dep (Za.gkds ks)
def Za.gkds : List Za → Nat
 | [] => 0
 | k :: ks => max (Za.gkd k) (Za.gkds ks)
end
mutual
def Za.nmx : Za → Nat | .mk _ s _ ks => max s.size (Za.nmxs ks)
def Za.nmxs : List Za → Nat
 | [] => 0
 | k :: ks => max (Za.nmx k) (Za.nmxs ks)
end
theorem ZrX (t : Za) : t.nmx = max t.fName.size (Za.nmxs t.fKids) := by cases t; rw [Za.nmx]; rfl
theorem Zh3 (k : Za) (ks : List Za) : Za.nmxs (k :: ks) = max k.nmx (Za.nmxs ks) := by rw [Za.nmxs]
theorem Zse {k : Za} : ∀ {l : List Za}, k ∈ l → k.nmx ≤ Za.nmxs l
 | j :: l, h => by
  rw [Zh3]
  rcases List.mem_cons.1 h with rfl | h
  ·omega
  ·have := Zse h; omega
theorem ZnJ (t : Za) : t.vol = 1 + t.fName.size + t.fBound.nod + Za.vols t.fKids := by cases t; rw [Za.vol]; rfl
theorem Zyb (t : Za) : t.gks = max t.fBound.nod (Za.gkss t.fKids) := by cases t; rw [Za.gks]; rfl
theorem ZyH (t : Za) : t.gkd = max t.fBound.dep (Za.gkds t.fKids) := by cases t; rw [Za.gkd]; rfl
theorem Zh2 (k : Za) (ks : List Za) : Za.vols (k :: ks) = k.vol + Za.vols ks := by rw [Za.vols]
theorem ZlE (k : Za) (ks : List Za) : Za.gkss (k :: ks) = max k.gks (Za.gkss ks) := by rw [Za.gkss]
theorem ZlB (k : Za) (ks : List Za) : Za.gkds (k :: ks) = max k.gkd (Za.gkds ks) := by rw [Za.gkds]
theorem ZoX {k : Za} : ∀ {l : List Za}, k ∈ l → k.vol ≤ Za.vols l
 | j :: l, h => by
  rw [Zh2]
  rcases List.mem_cons.1 h with rfl | h
  ·omega
  ·have := ZoX h; omega
theorem Zsd (t : Za) : t.nod ≤ t.vol := by
 refine Za.ind (M := fun t => t.nod ≤ t.vol) (fun v ih => ?_) t
 have key : ∀ l : List Za, (∀ k ∈ l, k.nod ≤ k.vol) → Za.nods l ≤ Za.vols l := fun l => by
  induction l with
  | nil => intro _; rw [Za.nods, Za.vols]; exact Nat.le_refl _
  | cons k ks ihl => intro h; rw [Zf8, Zh2]; have h1 := h k (by simp); have h2 := ihl fun j hj => h j (by simp [hj]); omega
 have := key v.fKids ih
 rw [Zoc, ZnJ]; omega
theorem Zsb (t : Za) : t.nmx ≤ t.vol := by
 refine Za.ind (M := fun t => t.nmx ≤ t.vol) (fun v ih => ?_) t
 have key : ∀ l : List Za, (∀ k ∈ l, k.nmx ≤ k.vol) → Za.nmxs l ≤ Za.vols l := fun l => by
  induction l with
  | nil => intro _; rw [Za.nmxs, Za.vols]; exact Nat.le_refl _
  | cons k ks ihl => intro h; rw [Zh3, Zh2]; have h1 := h k (by simp); have h2 := ihl fun j hj => h j (by simp [hj]); omega
 have := key v.fKids ih
 rw [ZrX, ZnJ]; omega
theorem Zvh (t : Za) : ∀ (xs : List Za) (n x : Nat), (∀ k ∈ xs, ZC k = some ((k.gks : Nat) : Int)) → ZN ((n : Nat) : Int) t x xs = some ((max n (Za.gkss xs) : Nat) : Int)
 | [], n, x, _ => by rw [ZN, Za.gkss, Nat.max_eq_left (Nat.zero_le _)]
 | k :: xs, n, x, h => by
  rw [ZN, h k (by simp), Zm, Zha, Zvh t xs _ _ (fun j hj => h j (by simp [hj])), ZlE, Nat.max_assoc]
theorem ZDm (t : Za) : t.vol ≤ BIG → ZC t = some ((t.gks : Nat) : Int) := by
 refine Za.ind (M := fun t => t.vol ≤ BIG → ZC t = some ((t.gks : Nat) : Int)) (fun v ih hb => ?_) t
 rw [ZnJ] at hb
 rw [ZC, Zzp _ (by omega), Zm, Zvh v v.fKids _ 0 (fun k hk => ih k hk (by have := ZoX hk; omega)), Zyb]
theorem Zvo (t : Za) : ∀ (xs : List Za) (n x : Nat), (∀ k ∈ xs, Zz k = some ((k.gkd : Nat) : Int)) → ZL ((n : Nat) : Int) t x xs = some ((max n (Za.gkds xs) : Nat) : Int)
 | [], n, x, _ => by rw [ZL, Za.gkds, Nat.max_eq_left (Nat.zero_le _)]
 | k :: xs, n, x, h => by
  rw [ZL, h k (by simp), Zm, Zha, Zvo t xs _ _ (fun j hj => h j (by simp [hj])), ZlB, Nat.max_assoc]
theorem ZDa (t : Za) : t.vol ≤ BIG → Zz t = some ((t.gkd : Nat) : Int) := by
 refine Za.ind (M := fun t => t.vol ≤ BIG → Zz t = some ((t.gkd : Nat) : Int)) (fun v ih hb => ?_) t
 rw [ZnJ] at hb
 rw [Zz, Zx3 _ (by omega), Zm, Zvo v v.fKids _ 0 (fun k hk => ih k hk (by have := ZoX hk; omega)), ZyH]
theorem ZrC (t : Za) : ∀ (xs : List Za) (a b x : Nat), (∀ k ∈ xs, ZaD k = some (((k.gks : Nat) : Int), ((k.gkd : Nat) : Int))) → Zbe ((a : Nat) : Int) ((b : Nat) : Int) x t xs = some (((max a (Za.gkss xs) : Nat) : Int), ((max b (Za.gkds xs) : Nat) : Int))
 | [], a, b, x, _ => by rw [Zbe, Za.gkss, Za.gkds, Nat.max_eq_left (Nat.zero_le _), Nat.max_eq_left (Nat.zero_le _)]
 | k :: xs, a, b, x, h => by
  rw [Zbe, h k (by simp), Zm, Zha, Zha, ZrC t xs _ _ _ (fun j hj => h j (by simp [hj])), ZlE, ZlB, Nat.max_assoc, Nat.max_assoc]
theorem Zy8 (t : Za) : t.vol ≤ BIG → ZaD t = some (((t.gks : Nat) : Int), ((t.gkd : Nat) : Int)) := by
 refine Za.ind (M := fun t => t.vol ≤ BIG → ZaD t = some (((t.gks : Nat) : Int), ((t.gkd : Nat) : Int))) (fun v ih hb => ?_) t
 rw [ZnJ] at hb
 rw [ZaD, Zzr _ (by omega), Zm, Zyg _ (by omega), Zm, ZrC v v.fKids _ _ 0 (fun k hk => ih k hk (by have := ZoX hk; omega)), Zyb, ZyH]

def Zkl (t : Za) : Bool :=
 if t.fOp = 1 then ZnC t.fName && decide (t.fBound.fArgs.length = 0) && decide (t.fKids.length = 0)
 else if t.fOp = 2 then ZwM t.fName && decide (t.fBound.fArgs.length = 0) && decide (t.fKids.length = 0)
 else if t.fOp = 3 then decide (t.fName.size = 0) && decide (t.fBound.fArgs.length = 0) && decide (t.fKids.length = 2)
 else if t.fOp = 4 then ZnC t.fName && decide (t.fKids.length = 1) else false
mutual
def Za.fms : Za → Bool | .mk o s b ks => Za.fmss ks && Zkl (.mk o s b ks)
def Za.fmss : List Za → Bool
 | [] => true
 | k :: ks => Za.fms k && Za.fmss ks
end
theorem ZuM (t : Za) : t.fms = (Za.fmss t.fKids && Zkl t) := by cases t; rw [Za.fms]; rfl
theorem Zh1 (k : Za) (ks : List Za) : Za.fmss (k :: ks) = (k.fms && Za.fmss ks) := by rw [Za.fmss]
theorem Zk7 (a b : Nat) : (((a : Nat) : Int) == ((b : Nat) : Int)) = decide (a = b) := by rw [Zdk, Bool.eq_iff_iff, beq_iff_eq, decide_eq_true_iff]
theorem Zz8 (a b : Int) : ((a == b) = true) = (a = b) := by rw [beq_iff_eq]
theorem ZtM (t : Za) (ht : t.fName.size ≤ 1000000000) : ∀ (xs : List Za) (x : Nat), (∀ k ∈ xs, Zat k = some k.fms) → ZaX x t xs = some (Za.fmss xs && Zkl t)
 | [], x, _ => by
  have e0 := Zk7 t.fBound.fArgs.length 0
  have e1 := Zk7 t.fKids.length 0
  have e2 := Zk7 t.fKids.length 2
  have e3 := Zk7 t.fKids.length 1
  simp only [Int.natCast_zero, Int.cast_ofNat_Int] at e0 e1 e2 e3
  rw [ZaX, Za.fmss, Bool.true_and]
  unfold Zkl
  simp only [Zz8]
  rw [ZCd _ ht, ZCs _ ht, ZlC]
  split
  ·rw [Zm, e0, e1]
  ·split
   ·rw [Zm, e0, e1]
   ·split
    ·rw [e0, e2]
    ·split
     ·rw [Zm, e3]
     ·rfl
 | k :: xs, x, h => by
  rw [ZaX, h k (by simp), Zm, Zh1]
  cases k.fms with
  | false => rfl
  | true => rw [Bool.not_true, ifF, ZtM t ht xs _ (fun j hj => h j (by simp [hj])), Bool.true_and]
theorem ZBh (t : Za) : t.nmx ≤ 1000000000 → Zat t = some t.fms := by
 refine Za.ind (M := fun t => t.nmx ≤ 1000000000 → Zat t = some t.fms) (fun v ih hb => ?_) t
 rw [ZrX] at hb
 rw [Zat, ZtM v (by omega) v.fKids 0 (fun k hk => ih k hk (by have := Zse hk; omega)), ZuM]

theorem ZvH (s : List Za) : ∀ (xs : List Za) (x : Nat), (∀ k ∈ xs, Zby k = some k.fms) → ∃ r, ZB s x xs = some r ∧ decide (r ≥ 0) = !Za.fmss xs
 | [], x, _ => ⟨-1, by rw [ZB], by rw [Za.fmss]; rfl⟩
 | k :: xs, x, h => by
  obtain ⟨r, h1, h2⟩ := ZvH s xs (x + 1) (fun j hj => h j (by simp [hj]))
  have hk : Zdm k = some (!k.fms) := by rw [Zdm, h k (by simp), Zm]
  rw [ZB, hk, Zm, Zh1]
  cases k.fms with
  | false => exact ⟨_, by rw [Bool.not_false, ifT], decide_eq_true (by omega)⟩
  | true => exact ⟨r, by rw [Bool.not_true, ifF, h1], by rw [h2, Bool.true_and]⟩
theorem ZBB (s : List Za) (h : ∀ k ∈ s, Zby k = some k.fms) : ZM s = some (!Za.fmss s) := by
 obtain ⟨r, h1, h2⟩ := ZvH s s 0 h
 rw [ZM, Z7, h1, Zm, h2]
theorem Zy7 (op : Int) : ∃ b, Zdf (Zfm (Zfm ([] : List (Int × Int)) 3 2) 4 1) 0 op = some ((if op = 3 then 2 else if op = 4 then 1 else 0), b) := by
 by_cases h3 : op = 3
 ·subst h3; exact ⟨_, rfl⟩
 ·by_cases h4 : op = 4
  ·subst h4; exact ⟨_, rfl⟩
  ·have e3 : (op == 3) = false := by rw [beq_eq_false_iff_ne]; exact h3
   have e4 : (op == 4) = false := by rw [beq_eq_false_iff_ne]; exact h4
   rw [if_neg h3, if_neg h4]
   refine ⟨false, ?_⟩
   have hm : Zfm (Zfm ([] : List (Int × Int)) 3 2) 4 1 = [(3, 2), (4, 1)] := rfl
   rw [hm]
   unfold Zdf
   simp only [Zde, e3, e4, Bool.false_eq_true, if_false]

theorem ZAD (t : Za) : t.nmx ≤ 1000000000 → Zby t = some t.fms := by
 refine Za.ind (M := fun t => t.nmx ≤ 1000000000 → Zby t = some t.fms) (fun v ih hb => ?_) t
 rw [ZrX] at hb
 have hk : ∀ k ∈ v.fKids, Zby k = some k.fms := fun k hk => ih k hk (by have := Zse hk; omega)
 have hs : v.fName.size ≤ 1000000000 := by omega
 obtain ⟨b, hlook⟩ := Zy7 v.fOp
 have hc := ZBB v.fKids hk
 have e0 : decide (((v.fBound.fArgs.length : Nat) : Int) > 0) = !decide (v.fBound.fArgs.length = 0) := by
  by_cases h : v.fBound.fArgs.length = 0
  ·rw [decide_eq_true h]; exact decide_eq_false (by omega)
  ·rw [decide_eq_false h]; exact decide_eq_true (by omega)
 have ek : ∀ n : Nat, (((v.fKids.length : Nat) : Int) != ((n : Nat) : Int)) = !decide (v.fKids.length = n) := fun n => by rw [bne, Zk7]
 have ek0 := ek 0
 have ek1 := ek 1
 have ek2 := ek 2
 simp only [Int.natCast_zero, Int.cast_ofNat_Int] at ek0 ek1 ek2
 rw [Zby, hlook, Zm, hc, ZlC, e0, ZuM]
 unfold Zc6 Zkl
 rw [Zw9 _ hs, ZDc _ hs, ZCz _ hs]
 by_cases h1 : v.fOp = 1
 ·rw [h1]; simp only [Zm]
  simp only [ek0, show ((1 : Int) = 3) = False from by decide, show ((1 : Int) = 4) = False from by decide, if_false, if_true]
  cases decide (v.fBound.fArgs.length = 0) <;> cases decide (v.fKids.length = 0) <;> cases Za.fmss v.fKids <;> cases ZnC v.fName <;> rfl
 ·by_cases h2 : v.fOp = 2
  ·rw [h2]; simp only [Zm]
   simp only [ek0, show ((2 : Int) = 3) = False from by decide, show ((2 : Int) = 4) = False from by decide, show ((2 : Int) = 1) = False from by decide, if_false, if_true]
   unfold ZwM
   cases decide (v.fBound.fArgs.length = 0) <;> cases decide (v.fKids.length = 0) <;> cases Za.fmss v.fKids <;> cases (ZsT v.fName.data.toList || ZqI v.fName.data.toList) <;> cases Zt0 v.fName <;> rfl
  ·by_cases h3 : v.fOp = 3
   ·rw [h3]; simp only [Zm]
    simp only [ek2, show ((3 : Int) = 4) = False from by decide, show ((3 : Int) = 1) = False from by decide, show ((3 : Int) = 2) = False from by decide, if_false, if_true]
    cases decide (v.fBound.fArgs.length = 0) <;> cases decide (v.fKids.length = 2) <;> cases Za.fmss v.fKids <;> cases decide (v.fName.size = 0) <;> rfl
   ·by_cases h4 : v.fOp = 4
    ·rw [h4]; simp only [Zm]
     simp only [ek1, show ((4 : Int) = 3) = False from by decide, show ((4 : Int) = 1) = False from by decide, show ((4 : Int) = 2) = False from by decide, if_false, if_true]
     cases decide (v.fBound.fArgs.length = 0) <;> cases decide (v.fKids.length = 1) <;> cases Za.fmss v.fKids <;> cases ZnC v.fName <;> rfl
    ·have g1 : (v.fOp == 1) = false := by rw [beq_eq_false_iff_ne]; exact h1
     have g2 : (v.fOp == 2) = false := by rw [beq_eq_false_iff_ne]; exact h2
     have g3 : (v.fOp == 3) = false := by rw [beq_eq_false_iff_ne]; exact h3
     have g4 : (v.fOp == 4) = false := by rw [beq_eq_false_iff_ne]; exact h4
     have g5 : (v.fOp != 4) = true := by rw [bne, g4]; rfl
     simp only [Zm, g1, g2, g3, g4, g5, if_neg h1, if_neg h2, if_neg h3, if_neg h4, ek0]
     cases decide (v.fBound.fArgs.length = 0) <;> cases decide (v.fKids.length = 0) <;> cases Za.fmss v.fKids <;> rfl

def ZoN (t : Za) : Int :=
 if t.fms = true then (if 20000 < t.nod ∨ 20000 < t.gks then 3 else if 100 < t.dep ∨ 100 < t.gkd then 4 else 0) else 1
theorem Zxq (a b : Prop) [Decidable a] [Decidable b] : (decide a || decide b) = decide (a ∨ b) := by
 rw [Bool.eq_iff_iff, Bool.or_eq_true, decide_eq_true_iff, decide_eq_true_iff, decide_eq_true_iff]
theorem ZkQ (a n : Nat) : decide (((a : Nat) : Int) > ((n : Nat) : Int)) = decide (n < a) := decide_eq_decide.2 (by omega)
theorem Zs0 (t : Za) (hm : t.nmx ≤ 1000000000) (h : t.vol ≤ 1000000000000) : Zbm t = some (ZoN t) := by
 have hB : BIG = 1000000000000 := rfl
 have hn := Zsd t
 have g1 := ZkQ t.nod 20000
 have g2 := ZkQ t.gks 20000
 have g3 := ZkQ t.dep 100
 have g4 := ZkQ t.gkd 100
 simp only [Int.cast_ofNat_Int] at g1 g2 g3 g4
 unfold Zbm ZoN
 rw [ZAD t hm, Zm]
 cases t.fms with
 | false => rfl
 | true =>
  rw [Bool.not_true, ifF, ifT, Zyz t (by omega), Zm, ZDm t (by omega), Zm, g1, g2, Zu1 t (by omega), Zm, ZDa t (by omega), Zm, g3, g4]
  by_cases a1 : 20000 < t.nod
  ·rw [decide_eq_true a1, orT, ifT, if_pos (.inl a1)]
  ·rw [decide_eq_false a1, orF, Zm]
   by_cases a2 : 20000 < t.gks
   ·rw [decide_eq_true a2, ifT, if_pos (.inr a2)]
   ·rw [decide_eq_false a2, ifF, if_neg (show ¬ (20000 < t.nod ∨ 20000 < t.gks) from fun h => h.elim a1 a2)]
    by_cases a3 : 100 < t.dep
    ·rw [decide_eq_true a3, orT, ifT, if_pos (.inl a3)]
    ·rw [decide_eq_false a3, orF, Zm]
     by_cases a4 : 100 < t.gkd
     ·rw [decide_eq_true a4, ifT, if_pos (.inr a4)]
     ·rw [decide_eq_false a4, ifF, if_neg (show ¬ (100 < t.dep ∨ 100 < t.gkd) from fun h => h.elim a3 a4)]
theorem Zs3 (t : Za) (hm : t.nmx ≤ 1000000000) (h : t.vol ≤ 1000000000000) : Zbg t = some (ZoN t) := by
 have hB : BIG = 1000000000000 := rfl
 have hn := Zsd t
 have g1 := ZkQ t.nod 20000
 have g2 := ZkQ t.gks 20000
 have g3 := ZkQ t.dep 100
 have g4 := ZkQ t.gkd 100
 simp only [Int.cast_ofNat_Int] at g1 g2 g3 g4
 unfold Zbg ZoN
 rw [ZBh t hm, Zm]
 cases t.fms with
 | false => rfl
 | true =>
  rw [Bool.not_true, ifF, ifT, Zy8 t (by omega), Zm, Zw5 t (by omega), Zm, g1, g2, ZvS t (by omega), Zm, g3, g4, Zxq, Zxq]
  by_cases a1 : 20000 < t.nod ∨ 20000 < t.gks
  ·rw [decide_eq_true a1, ifT, if_pos a1]
  ·rw [decide_eq_false a1, ifF, if_neg a1]
   by_cases a2 : 100 < t.dep ∨ 100 < t.gkd
   ·rw [decide_eq_true a2, ifT, if_pos a2]
   ·rw [decide_eq_false a2, ifF, if_neg a2]
theorem Zzu (t : Za) (h : t.vol ≤ 1000000000) : Zbm t = some (ZoN t) := Zs0 t (Nat.le_trans (Zsb t) h) (by omega)
theorem Zzk (t : Za) (h : t.vol ≤ 1000000000) : Zbg t = some (ZoN t) := Zs3 t (Nat.le_trans (Zsb t) h) (by omega)

mutual
def Za.qnt : Za → Bool | .mk o _ _ ks => (o == 4) || Za.qnts ks
def Za.qnts : List Za → Bool
 | [] => false
 | k :: ks => Za.qnt k || Za.qnts ks
end
theorem ZuF (t : Za) : t.qnt = ((t.fOp == 4) || Za.qnts t.fKids) := by cases t; rw [Za.qnt]; rfl
theorem Zh0 (k : Za) (ks : List Za) : Za.qnts (k :: ks) = (k.qnt || Za.qnts ks) := by rw [Za.qnts]
theorem ZvW (s : List Za) : ∀ (xs : List Za) (x : Nat), (∀ k ∈ xs, ZaC k = some k.qnt) → ∃ r, Zy s x xs = some r ∧ decide (r ≥ 0) = Za.qnts xs
 | [], x, _ => ⟨-1, by rw [Zy], by rw [Za.qnts]; rfl⟩
 | k :: xs, x, h => by
  obtain ⟨r, h1, h2⟩ := ZvW s xs (x + 1) (fun j hj => h j (by simp [hj]))
  rw [Zy, h k (by simp), Zm, Zh0]
  cases k.qnt with
  | true => exact ⟨_, by rw [ifT], decide_eq_true (by omega)⟩
  | false => exact ⟨r, by rw [ifF, h1], by rw [h2, Bool.false_or]⟩
theorem ZCO (t : Za) : ZaC t = some t.qnt := by
 refine Za.ind (M := fun t => ZaC t = some t.qnt) (fun v ih => ?_) t
 obtain ⟨r, h1, h2⟩ := ZvW v.fKids v.fKids 0 ih
 rw [ZaC, ZuF]
 cases v.fOp == 4 with
 | true => rfl
 | false => rw [ZQ, Z0, h1, Zm, h2, Bool.false_or]; rfl
theorem Zvi (t : Za) : ∀ (xs : List Za) (x : Nat), (∀ k ∈ xs, Z2 k = some k.qnt) → Zak x t xs = some (Za.qnts xs || (t.fOp == 4))
 | [], x, _ => by rw [Zak, Za.qnts, Bool.false_or]
 | k :: xs, x, h => by
  rw [Zak, h k (by simp), Zm, Zh0]
  cases k.qnt with
  | true => rfl
  | false => rw [ifF, Zvi t xs _ (fun j hj => h j (by simp [hj])), Bool.false_or]
theorem ZDh (t : Za) : Z2 t = some t.qnt := by
 refine Za.ind (M := fun t => Z2 t = some t.qnt) (fun v ih => ?_) t
 rw [Z2, Zvi v v.fKids 0 ih, ZuF, Bool.or_comm]
def ZgE (t : Za) : Bool := (ZoN t == 0) && !t.qnt
theorem Zmc (t : Za) (h : t.vol ≤ 1000000000) : Za8 t = some (ZgE t) := by
 unfold Za8 ZgE
 rw [Zzu t h, Zm, ZCO]
 cases ZoN t == 0 <;> rfl
theorem ZtO (t : Za) (h : t.vol ≤ 1000000000) : Zal t = some (ZgE t) := by
 unfold Zal ZgE
 rw [Zzk t h, Zm, ZDh]
 cases ZoN t == 0 <;> rfl
inductive ST where
 | v (s : ByteArray)
 | k (s : ByteArray)
 | a (f x : ST)
def ST.ty : ST → Za
 | .v s => Za.mk 1 s (Zi.mk []) []
 | .k s => Za.mk 2 s (Zi.mk []) []
 | .a f x => Za.mk 3 (ByteArray.mk #[]) (Zi.mk []) [f.ty, x.ty]
def ST.nod : ST → Nat
 | .v _ => 1
 | .k _ => 1
 | .a f x => 1 + f.nod + x.nod
def ST.dep : ST → Nat
 | .v _ => 1
 | .k _ => 1
 | .a f x => max f.dep x.dep + 1
def ST.nms : ST → Bool
 | .v s => ZnC s && decide (s.size ≤ 1048576)
 | .k s => ZwM s && decide (s.size ≤ 1048576)
 | .a f x => f.nms && x.nms
theorem ZAS (k : Zi) (h : k.fArgs.length = 0) : k = Zi.mk [] := by
 cases k with | mk l => cases l with | nil => rfl | cons _ _ => cases h
theorem ZDB (s : ByteArray) (h : s.size = 0) : s = ByteArray.mk #[] := by
 apply Zfi
 have : s.data.toList.length = 0 := by rw [sz]; exact h
 rw [List.length_eq_zero_iff.1 this]
theorem ZCU (t : Za) : t.nmx ≤ 1048576 → t.fms = true → t.qnt = false → ∃ s : ST, s.ty = t ∧ s.nms = true := by
 refine Za.ind (M := fun t => t.nmx ≤ 1048576 → t.fms = true → t.qnt = false → ∃ s : ST, s.ty = t ∧ s.nms = true) (fun v ih hb hf hq => ?_) t
 rw [ZrX] at hb
 rw [ZuM, Bool.and_eq_true] at hf
 rw [ZuF, Bool.or_eq_false_iff] at hq
 obtain ⟨h1, h2⟩ := hf
 obtain ⟨op, s, b, ks⟩ := v
 have hs : s.size ≤ 1048576 := by have : (Za.mk op s b ks).fName = s := rfl; rw [this] at hb; omega
 have hk : Za.nmxs ks ≤ 1048576 := by have : (Za.mk op s b ks).fKids = ks := rfl; rw [this] at hb; omega
 replace h1 : Za.fmss ks = true := h1
 replace hq : (op == 4) = false ∧ Za.qnts ks = false := hq
 unfold Zkl at h2
 have e1 : (Za.mk op s b ks).fOp = op := rfl
 have e2 : (Za.mk op s b ks).fName = s := rfl
 have e3 : (Za.mk op s b ks).fBound = b := rfl
 have e4 : (Za.mk op s b ks).fKids = ks := rfl
 rw [e1, e2, e3, e4] at h2
 by_cases o1 : op = 1
 ·rw [if_pos o1] at h2
  simp only [Bool.and_eq_true, decide_eq_true_eq] at h2
  obtain ⟨⟨h3, h4⟩, h5⟩ := h2
  refine ⟨.v s, ?_, by simp [ST.nms, h3, hs]⟩
  rw [ST.ty, ZAS b h4, List.length_eq_zero_iff.1 h5, o1]
 ·rw [if_neg o1] at h2
  by_cases o2 : op = 2
  ·rw [if_pos o2] at h2
   simp only [Bool.and_eq_true, decide_eq_true_eq] at h2
   obtain ⟨⟨h3, h4⟩, h5⟩ := h2
   refine ⟨.k s, ?_, by simp [ST.nms, h3, hs]⟩
   rw [ST.ty, ZAS b h4, List.length_eq_zero_iff.1 h5, o2]
  ·rw [if_neg o2] at h2
   by_cases o3 : op = 3
   ·rw [if_pos o3] at h2
    simp only [Bool.and_eq_true, decide_eq_true_eq] at h2
    obtain ⟨⟨h3, h4⟩, h5⟩ := h2
    match ks, h5, h1, hk, ih, hq.2 with
    | [f, x], _, h1, hk, ih, hq2 =>
     rw [Zh1, Zh1, Bool.and_eq_true, Bool.and_eq_true] at h1
     rw [Zh3, Zh3] at hk
     rw [Zh0, Zh0, Bool.or_eq_false_iff, Bool.or_eq_false_iff] at hq2
     obtain ⟨f', hf1, hf2⟩ := ih f (by simp [Za.fKids]) (by omega) h1.1 hq2.1
     obtain ⟨x', hx1, hx2⟩ := ih x (by simp [Za.fKids]) (by omega) h1.2.1 hq2.2.1
     refine ⟨.a f' x', ?_, by simp [ST.nms, hf2, hx2]⟩
     rw [ST.ty, hf1, hx1, ZAS b h4, ZDB s h3, o3]
   ·rw [if_neg o3] at h2
    have o4 : ¬ op = 4 := fun h => by rw [h] at hq; simp at hq
    rw [if_neg o4] at h2
    cases h2
theorem Zul : ∀ s : ST, s.nms = true → s.ty.fms = true
 | .v s, h => by
  simp only [ST.nms, Bool.and_eq_true] at h
  rw [ST.ty, Za.fms, Za.fmss, Zkl, if_pos (show (Za.mk 1 s (Zi.mk []) []).fOp = 1 from rfl)]
  show (true && (ZnC s && true && true)) = true
  rw [h.1]; rfl
 | .k s, h => by
  simp only [ST.nms, Bool.and_eq_true] at h
  rw [ST.ty, Za.fms, Za.fmss, Zkl, if_neg (show ¬ (Za.mk 2 s (Zi.mk []) []).fOp = 1 from fun h => absurd (show (2 : Int) = 1 from h) (by decide)), if_pos (show (Za.mk 2 s (Zi.mk []) []).fOp = 2 from rfl)]
  show (true && (ZwM s && true && true)) = true
  rw [h.1]; rfl
 | .a f x, h => by
  simp only [ST.nms, Bool.and_eq_true] at h
  rw [ST.ty, Za.fms, Zh1, Zh1, Zul f h.1, Zul x h.2, Za.fmss, Zkl]
  rfl
theorem ZnX : ∀ s : ST, s.ty.nod = s.nod
 | .v s => by rw [ST.ty, Za.nod, Za.nods, ST.nod]
 | .k s => by rw [ST.ty, Za.nod, Za.nods, ST.nod]
 | .a f x => by rw [ST.ty, Za.nod, Zf8, Zf8, Za.nods, ST.nod, ZnX f, ZnX x]; omega
theorem Zsj : ∀ s : ST, s.ty.dep = s.dep
 | .v s => by rw [ST.ty, Za.dep, Za.deps, ST.dep]
 | .k s => by rw [ST.ty, Za.dep, Za.deps, ST.dep]
 | .a f x => by rw [ST.ty, Za.dep, Zjs, Zjs, Za.deps, ST.dep, Zsj f, Zsj x]; omega
theorem Zut : ∀ s : ST, s.ty.gks = 1
 | .v s => by rw [ST.ty, Za.gks, Za.gkss, Zi.nod, Zi.nods]; rfl
 | .k s => by rw [ST.ty, Za.gks, Za.gkss, Zi.nod, Zi.nods]; rfl
 | .a f x => by rw [ST.ty, Za.gks, ZlE, ZlE, Za.gkss, Zut f, Zut x, Zi.nod, Zi.nods]; rfl
theorem Zud : ∀ s : ST, s.ty.gkd = 1
 | .v s => by rw [ST.ty, Za.gkd, Za.gkds, Zi.dep, Zi.deps]; rfl
 | .k s => by rw [ST.ty, Za.gkd, Za.gkds, Zi.dep, Zi.deps]; rfl
 | .a f x => by rw [ST.ty, Za.gkd, ZlB, ZlB, Za.gkds, Zud f, Zud x, Zi.dep, Zi.deps]; rfl
theorem ZuR : ∀ s : ST, s.ty.qnt = false
 | .v s => by rw [ST.ty, Za.qnt, Za.qnts]; rfl
 | .k s => by rw [ST.ty, Za.qnt, Za.qnts]; rfl
 | .a f x => by rw [ST.ty, Za.qnt, Zh0, Zh0, Za.qnts, ZuR f, ZuR x]; rfl
theorem ZrH : ∀ s : ST, s.nms = true → s.ty.nmx ≤ 1048576
 | .v s, h => by
  simp only [ST.nms, Bool.and_eq_true, decide_eq_true_eq] at h
  rw [ST.ty, Za.nmx, Za.nmxs]; omega
 | .k s, h => by
  simp only [ST.nms, Bool.and_eq_true, decide_eq_true_eq] at h
  rw [ST.ty, Za.nmx, Za.nmxs]; omega
 | .a f x, h => by
  simp only [ST.nms, Bool.and_eq_true] at h
  have h1 := ZrH f h.1
  have h2 := ZrH x h.2
  have h3 : (ByteArray.mk #[]).size = 0 := rfl
  rw [ST.ty, Za.nmx, Zh3, Zh3, Za.nmxs]; omega
theorem Zqp : ∀ s : ST, s.nms = true → s.ty.vol ≤ 1048578 * s.nod
 | .v s, h => by
  simp only [ST.nms, Bool.and_eq_true, decide_eq_true_eq] at h
  rw [ST.ty, Za.vol, Za.vols, Zi.nod, Zi.nods, ST.nod]; omega
 | .k s, h => by
  simp only [ST.nms, Bool.and_eq_true, decide_eq_true_eq] at h
  rw [ST.ty, Za.vol, Za.vols, Zi.nod, Zi.nods, ST.nod]; omega
 | .a f x, h => by
  simp only [ST.nms, Bool.and_eq_true] at h
  have h1 := Zqp f h.1
  have h2 := Zqp x h.2
  have h3 : (ByteArray.mk #[]).size = 0 := rfl
  rw [ST.ty, Za.vol, Zh2, Zh2, Za.vols, Zi.nod, Zi.nods, ST.nod, h3]; omega
def ST.big (s : ST) : Bool := decide (20000 < s.nod) || decide (100 < s.dep)
theorem Zss (s : ST) (h : s.nms = true) : ZoN s.ty = if 20000 < s.nod then 3 else if 100 < s.dep then 4 else 0 := by
 unfold ZoN
 rw [if_pos (Zul s h), ZnX, Zsj, Zut, Zud]
 by_cases h1 : 20000 < s.nod
 ·rw [if_pos (.inl h1), if_pos h1]
 ·rw [if_neg (show ¬ (20000 < s.nod ∨ 20000 < 1) by omega), if_neg h1]
  by_cases h2 : 100 < s.dep
  ·rw [if_pos (.inl h2), if_pos h2]
  ·rw [if_neg (show ¬ (100 < s.dep ∨ 100 < 1) by omega), if_neg h2]
theorem Zdv {s : ST} : s.big = false ↔ s.nod ≤ 20000 ∧ s.dep ≤ 100 := by
 unfold ST.big
 rw [Bool.or_eq_false_iff, decide_eq_false_iff_not, decide_eq_false_iff_not]; omega
def ST.good (s : ST) : Prop := s.nms = true ∧ s.big = false
theorem Zmn (s : ST) (h : s.good) : Zbm s.ty = some 0 := by
 have hb := Zdv.1 h.2
 have h1 := ZrH s h.1
 have h2 := Zqp s h.1
 rw [Zs0 s.ty (by omega) (by omega), Zss s h.1, if_neg (by omega), if_neg (by omega)]
theorem ZyF (s : ST) (h : s.good) : Zbg s.ty = some 0 := by
 have hb := Zdv.1 h.2
 have h1 := ZrH s h.1
 have h2 := Zqp s h.1
 rw [Zs3 s.ty (by omega) (by omega), Zss s h.1, if_neg (by omega), if_neg (by omega)]
theorem ZuP {t : Za} (hv : t.vol ≤ 1048576) (h : ZgE t = true) : ∃ s : ST, s.ty = t ∧ s.good := by
 unfold ZgE at h
 simp only [Bool.and_eq_true, beq_iff_eq, Bool.not_eq_true'] at h
 have hf : t.fms = true := by
  cases hf : t.fms with
  | true => rfl
  | false => unfold ZoN at h; rw [hf] at h; simp at h
 obtain ⟨s, rfl, hn⟩ := ZCU t (Nat.le_trans (Zsb t) hv) hf h.2
 refine ⟨s, rfl, hn, ?_⟩
 rw [Zss s hn] at h
 rw [Zdv]
 by_cases h1 : 20000 < s.nod
 ·rw [if_pos h1] at h; simp at h
 ·by_cases h2 : 100 < s.dep
  ·rw [if_neg h1, if_pos h2] at h; simp at h
  ·omega
theorem Zhh {s : ST} (h : s.good) : ZgE s.ty = true := by
 have hb := Zdv.1 h.2
 unfold ZgE
 rw [Zss s h.1, if_neg (by omega), if_neg (by omega), ZuR]; rfl

theorem ZrN (a b : ByteArray) : (a == b) = decide (a = b) := by
 cases a with | mk x => cases b with | mk y =>
 have : ((⟨x⟩ : ByteArray) == ⟨y⟩) = (x == y) := rfl
 rw [this, Bool.eq_iff_iff, beq_iff_eq, decide_eq_true_iff]
 exact ⟨fun h => by rw [h], fun h => by injection h⟩
theorem ZiA (a b : ByteArray) : (a.toList == b.toList) = decide (a = b) := by
 rw [Bool.eq_iff_iff, beq_iff_eq, decide_eq_true_iff, ZaL, ZaL]
 exact ⟨fun h => Zfi h, fun h => by rw [h]⟩
abbrev SB := List (ByteArray × ST)
def lk (x : ByteArray) : SB → Option ST
 | [] => none
 | p :: L => if p.1 = x then some p.2 else lk x L
def fi (x : ByteArray) : SB → Option Nat
 | [] => none
 | p :: L => if p.1 = x then some 0 else (fi x L).map (· + 1)
def toB (p : ByteArray × ST) : Zf := Zf.mk p.1 p.2.ty
def atL : Nat → SB → List (ByteArray × Int)
 | _, [] => []
 | k, p :: L => (p.1, ((k : Nat) : Int)) :: atL (k + 1) L
theorem Zrw (x : ByteArray) : ∀ L : SB, (fi x L = none ∧ lk x L = none) ∨ ∃ i p, fi x L = some i ∧ L[i]? = some p ∧ p.1 = x ∧ lk x L = some p.2
 | [] => .inl ⟨rfl, rfl⟩
 | q :: L => by
  by_cases h : q.1 = x
  ·exact .inr ⟨0, q, by rw [fi, if_pos h], rfl, h, by rw [lk, if_pos h]⟩
  ·rcases Zrw x L with ⟨h1, h2⟩ | ⟨i, p, h1, h2, h3, h4⟩
   ·exact .inl ⟨by rw [fi, if_neg h, h1]; rfl, by rw [lk, if_neg h, h2]⟩
   ·exact .inr ⟨i + 1, p, by rw [fi, if_neg h, h1]; rfl, h2, h3, by rw [lk, if_neg h, h4]⟩
theorem ZtA (x : ByteArray) : ∀ (L : SB) (k : Nat), Zde x (atL k L) = (fi x L).map fun i => ((k + i : Nat) : Int)
 | [], k => rfl
 | p :: L, k => by
  rw [atL, Zde, ZrN, fi]
  by_cases h : p.1 = x
  ·rw [decide_eq_true h.symm, ifT, if_pos h]; rfl
  ·rw [decide_eq_false (fun e => h e.symm), ifF, if_neg h, ZtA x L (k + 1)]
   cases fi x L with
   | none => rfl
   | some i => simp only [Option.map_some]; congr 2; omega
theorem Zsm (x : ByteArray) (u : ST) : ∀ (L : SB) (k n : Nat), fi x L = none → n = k + L.length → Zfm (atL k L) x ((n : Nat) : Int) = atL k (L ++ [(x, u)])
 | [], k, n, _, h => by subst h; rfl
 | p :: L, k, n, hf, h => by
  rw [fi] at hf
  by_cases hx : p.1 = x
  ·rw [if_pos hx] at hf; cases hf
  ·rw [if_neg hx] at hf
   have hf : fi x L = none := by cases hh : fi x L with | none => rfl | some i => rw [hh] at hf; cases hf
   rw [List.cons_append, atL, atL, Zfm, ZrN, decide_eq_false (fun e => hx e.symm), ifF, Zsm x u L (k + 1) n hf (by rw [h, List.length_cons]; omega)]
theorem ZpD (L : SB) (x : ByteArray) : Zdf (atL 0 L) 0 x = some (match fi x L with | some i => (((i : Nat) : Int), true) | none => (0, false)) := by
 unfold Zdf
 rw [ZtA]
 cases fi x L with
 | none => rfl
 | some i => simp only [Option.map_some, Nat.zero_add]
theorem Zly {α : Type} (l : List α) (i : Nat) : ixI l ((i : Nat) : Int) = l[i]? := by
 unfold ixI; rw [if_pos (Int.natCast_nonneg i)]; rfl
def ST.isv : ST → Bool
 | .v _ => true
 | _ => false
def ST.res (L : SB) : ST → ST
 | .v s => (lk s L).getD (.v s)
 | t => t
theorem ZCl : ∀ t : ST, t.ty.fOp = match t with | .v _ => 1 | .k _ => 2 | .a _ _ => 3
 | .v _ => rfl
 | .k _ => rfl
 | .a _ _ => rfl
theorem ZzJ (L : SB) (t : ST) : Zas ⟨L.map toB, atL 0 L⟩ t.ty = some (t.res L).ty := by
 unfold Zas Za0
 cases t with
 | v s =>
  show (if true = true then _ else _) = _
  rw [ifT]
  show (Zdf (atL 0 L) 0 s >>= _) = _
  rw [ZpD, Zm]
  rcases Zrw s L with ⟨h1, h2⟩ | ⟨i, p, h1, h2, h3, h4⟩
  ·rw [h1, ST.res, h2]; rfl
  ·rw [h1, ST.res, h4]
   show (ixI (L.map toB) ((i : Nat) : Int) >>= _) = _
   rw [Zly, List.getElem?_map, h2]
   rfl
 | k s => rfl
 | a f x => rfl
def ST.sub (L : SB) : ST → ST
 | .v s => (lk s L).getD (.v s)
 | .k s => .k s
 | .a f x => .a (f.sub L) (x.sub L)
def ST.occ (v : ByteArray) : ST → Bool
 | .v s => decide (s = v)
 | .k _ => false
 | .a f x => f.occ v || x.occ v
def ST.fr (l : List ByteArray) : ST → List ByteArray
 | .v s => if l.contains s = true then l else l ++ [s]
 | .k _ => l
 | .a f x => x.fr (f.fr l)
theorem Zrq (l : List ByteArray) (x : ByteArray) : l.contains x = true ↔ x ∈ l := by
 induction l with
 | nil => simp
 | cons a l ih => rw [List.contains_cons, Bool.or_eq_true, ih, ZrN, decide_eq_true_iff, List.mem_cons]
theorem ZA7 (t : ST) : ∀ l, (t.fr l).length ≤ l.length + t.nod := by
 induction t with
 | v s => intro l; rw [ST.fr, ST.nod]; split <;> simp
 | k s => intro l; rw [ST.fr]; omega
 | a f x ihf ihx => intro l; rw [ST.fr, ST.nod]; have h1 := ihf l; have h2 := ihx (f.fr l); omega
theorem Zup (x : ByteArray) (t : ST) : ∀ l, x ∈ t.fr l ↔ x ∈ l ∨ t.occ x = true := by
 induction t with
 | v s =>
  intro l
  rw [ST.fr, ST.occ, decide_eq_true_iff]
  by_cases h : l.contains s = true
  ·rw [if_pos h]
   exact ⟨.inl, fun h' => h'.elim id fun e => e ▸ (Zrq l s).1 h⟩
  ·rw [if_neg h, List.mem_append, List.mem_singleton]
   exact ⟨fun h' => h'.imp id Eq.symm, fun h' => h'.imp id Eq.symm⟩
 | k s => intro l; rw [ST.fr, ST.occ]; simp
 | a f x' ihf ihx => intro l; rw [ST.fr, ST.occ, ihx, ihf, Bool.or_eq_true, or_assoc]
theorem Zvz (s : List ByteArray) (v : ByteArray) : ∀ (xs : List ByteArray) (k : Nat), ∃ r, Zam s v k xs = some r ∧ decide (r ≥ 0) = xs.contains v
 | [], k => ⟨-1, by rw [Zam], rfl⟩
 | x :: xs, k => by
  obtain ⟨r, h1, h2⟩ := Zvz s v xs (k + 1)
  rw [Zam, ZiA, List.contains_cons, ZrN]
  by_cases h : v = x
  ·exact ⟨_, by rw [decide_eq_true h, ifT], by rw [decide_eq_true h, Bool.true_or]; exact decide_eq_true (Int.natCast_nonneg k)⟩
  ·exact ⟨r, by rw [decide_eq_false h, ifF, h1], by rw [decide_eq_false h, Bool.false_or, h2]⟩
theorem Zmo (s : List ByteArray) (v : ByteArray) : Zae s v = some (s.contains v) := by
 obtain ⟨r, h1, h2⟩ := Zvz s v s 0
 rw [Zae, Zcz, h1, Zm, h2]
theorem Zr0 (l b : List ByteArray) (t : Za) (k : Nat) : Zbt l b t k [] = some l := by rw [Zbt]
theorem ZAV (t : ST) : ∀ l : List ByteArray, l.length + t.nod ≤ 1000000000000 → ZcA l [] t.ty = some (t.fr l) := by
 induction t with
 | v s =>
  intro l hl
  rw [ST.ty, ZcA, Zbw, Zbw]
  show (if true = true then _ else _) = _
  rw [ifT]
  show (Zae [] s >>= _) = _
  rw [Zmo, Zm]
  show ((if true = true then (Zae l s >>= fun r => some (!r)) else some false) >>= _) = _
  rw [ZAz, Zmo, Zm, Zm, ST.fr]
  show (if (!l.contains s) = true then (Zac _ >>= fun _ => Zbt (l ++ [s]) [] _ 0 []) else Zbt l [] _ 0 []) = _
  rw [Zr0, Zr0]
  cases l.contains s with
  | true => rfl
  | false =>
   rw [Bool.not_false, ifT, Zdb]
   ·rfl
   ·rw [ST.nod] at hl; simp only [List.length_cons, List.length_nil]; omega
 | k s => intro l hl; rw [ST.ty, ZcA, Zbw, Zbw]; exact Zr0 _ _ _ _
 | a f x ihf ihx =>
  intro l hl
  rw [ST.nod] at hl
  have h1 := ZA7 f l
  rw [ST.ty, ZcA, Zbw, Zbw]
  show (if (((3 : Int) == 1)) = true then _ else if (((3 : Int) == 4)) = true then _ else Zbt l [] _ 0 [f.ty, x.ty]) = _
  rw [if_neg (by decide), if_neg (by decide), Zbt, ihf l (by omega), Zm, Zbt, ihx _ (by omega), Zm, Zbt, ST.fr]
theorem ZyA (t : ST) (h : t.good) : Zel t.ty = some (t.fr []) := by
 have hb := Zdv.1 h.2
 rw [Zel, Zmn t h, Zm, ZAV t [] (by simp; omega)]; rfl
theorem ZyY (L : SB) (v : ByteArray) (t : ST) : (t.sub L).occ v = true ↔ ∃ x, t.occ x = true ∧ ((lk x L = none ∧ x = v) ∨ ∃ u, lk x L = some u ∧ u.occ v = true) := by
 induction t with
 | v s =>
  rw [ST.sub]
  simp only [ST.occ, decide_eq_true_eq]
  cases hl : lk s L with
  | none =>
   simp only [Option.getD_none, ST.occ, decide_eq_true_eq]
   exact ⟨fun h => ⟨s, rfl, .inl ⟨hl, h⟩⟩, fun ⟨x, hx, h⟩ => by subst hx; rw [hl] at h; simpa using h⟩
  | some u =>
   simp only [Option.getD_some]
   exact ⟨fun h => ⟨s, rfl, .inr ⟨u, hl, h⟩⟩, fun ⟨x, hx, h⟩ => by subst hx; rw [hl] at h; simpa using h⟩
 | k s => simp [ST.sub, ST.occ]
 | a f x ihf ihx =>
  rw [ST.sub, ST.occ, Bool.or_eq_true, ihf, ihx]
  simp only [ST.occ, Bool.or_eq_true]
  exact ⟨fun h => h.elim (fun ⟨y, h1, h2⟩ => ⟨y, .inl h1, h2⟩) (fun ⟨y, h1, h2⟩ => ⟨y, .inr h1, h2⟩), fun ⟨y, h1, h2⟩ => h1.elim (fun h1 => .inl ⟨y, h1, h2⟩) (fun h1 => .inr ⟨y, h1, h2⟩)⟩
def ZmB (L : SB) : Prop := ∀ p ∈ L, p.2.good ∧ ZnC p.1 = true ∧ p.1.size ≤ 1048576
theorem ZuN {x : ByteArray} {u : ST} : ∀ {L : SB}, lk x L = some u → (x, u) ∈ L
 | p :: L, h => by
  rw [lk] at h
  by_cases hx : p.1 = x
  ·rw [if_pos hx] at h; injection h with h; subst hx h; exact List.mem_cons_self ..
  ·rw [if_neg hx] at h; exact List.mem_cons_of_mem _ (ZuN h)
theorem Zvj (L : SB) (hL : ZmB L) (v : ByteArray) (r1 : List ByteArray) : ∀ (xs : List ByteArray) (k : Nat), Zan v r1 k ⟨L.map toB, atL 0 L⟩ xs = some (xs.any fun x => decide (x = v) || ((lk x L).any fun u => u.occ v))
 | [], k => by rw [Zan]; rfl
 | x :: xs, k => by
  rw [Zan, ZiA, List.any_cons]
  by_cases h : x = v
  ·rw [decide_eq_true h]; rfl
  ·rw [decide_eq_false h, ifF, ZpD, Zm, Bool.false_or, Zvj L hL v r1 xs (k + 1)]
   rcases Zrw x L with ⟨h1, h2⟩ | ⟨i, p, h1, h2, h3, h4⟩
   ·rw [h1, h2]; rfl
   ·rw [h1, h4]
    show (((ixI (L.map toB) ((i : Nat) : Int)) >>= _) >>= _) = _
    rw [Zly, List.getElem?_map, h2]
    show ((Zel p.2.ty >>= _) >>= _) = _
    rw [ZyA p.2 (hL p (List.mem_of_getElem? h2)).1, Zm, Zmo, Zm, Zm]
    have : (p.2.fr []).contains v = p.2.occ v := by
     rw [Bool.eq_iff_iff, Zrq, Zup]; simp
    rw [this, Option.any_some]
    cases p.2.occ v <;> rfl
theorem ZB6 (L : SB) (hL : ZmB L) (v : ByteArray) (t : ST) (ht : t.good) (hv : lk v L = none) : Zb9 ⟨L.map toB, atL 0 L⟩ v t.ty = some ((t.sub L).occ v) := by
 rw [Zb9, ZyA t ht, Zm, Zvj L hL]
 congr 1
 rw [Bool.eq_iff_iff, List.any_eq_true, ZyY]
 constructor
 ·rintro ⟨x, hx, h⟩
  have hx := ((Zup x t []).1 hx).resolve_left (by simp)
  rw [Bool.or_eq_true, decide_eq_true_iff] at h
  rcases h with h | h
  ·exact ⟨x, hx, .inl ⟨h ▸ hv, h⟩⟩
  ·cases hl : lk x L with
   | none => rw [hl] at h; cases h
   | some u => rw [hl] at h; exact ⟨x, hx, .inr ⟨u, hl, h⟩⟩
 ·rintro ⟨x, hx, h⟩
  refine ⟨x, (Zup x t []).2 (.inr hx), ?_⟩
  rw [Bool.or_eq_true, decide_eq_true_iff]
  rcases h with ⟨_, h⟩ | ⟨u, hl, h⟩
  ·exact .inl h
  ·exact .inr (by rw [hl]; exact h)

def zty : Za := Za.mk 0 (ByteArray.mk #[]) (Zi.mk []) []
def Zp9 (c : List (ByteArray × Za)) (L : SB) : Prop := ∀ x, Zde x c = (lk x L).map ST.ty
theorem ZgY {c : List (ByteArray × Za)} {L : SB} (h : Zp9 c L) (x : ByteArray) : Zdf c zty x = some (match lk x L with | some u => (u.ty, true) | none => (zty, false)) := by
 unfold Zdf
 rw [h x]
 cases lk x L <;> rfl
theorem Zg0 {β : Type} (x k : ByteArray) (v : β) : ∀ c : List (ByteArray × β), Zde x (Zfm c k v) = if x = k then some v else Zde x c
 | [] => by
  rw [Zfm, Zde, Zde, ZrN]
  by_cases h : x = k
  ·rw [decide_eq_true h, ifT, if_pos h]
  ·rw [decide_eq_false h, ifF, if_neg h]; rfl
 | p :: c => by
  rw [Zfm, ZrN]
  by_cases hk : k = p.1
  ·rw [decide_eq_true hk, ifT, Zde, Zde, ZrN, ZrN]
   by_cases h : x = k
   ·rw [decide_eq_true h, ifT, if_pos h]
   ·rw [decide_eq_false h, ifF, if_neg h, decide_eq_false (fun e => h (e.trans hk.symm)), ifF]
  ·rw [decide_eq_false hk, ifF, Zde, Zde, ZrN, Zg0 x k v c]
   by_cases h : x = p.1
   ·rw [decide_eq_true h, ifT, ifT, if_neg (fun e => hk (e.symm.trans h))]
   ·rw [decide_eq_false h, ifF, ifF]
theorem Zpp (x : ByteArray) (M : SB) : ∀ L : SB, lk x (L ++ M) = match lk x L with | some u => some u | none => lk x M
 | [] => rfl
 | p :: L => by
  rw [List.cons_append, lk, lk]
  by_cases h : p.1 = x
  ·rw [if_pos h, if_pos h]
  ·rw [if_neg h, if_neg h, Zpp x M L]
theorem Zr5 : Zaw (Zi.mk []) = some (Zi.mk []) := by rw [Zaw]; show Zbz _ 0 [] [] = _; rw [Zbz]
theorem Zw3 (t : ST) : ZbS t.ty = some t.ty := by
 induction t with
 | v s => rw [ST.ty, ZbS]; show (Zaw (Zi.mk []) >>= _) = _; rw [Zr5, Zm]; show ZaH _ 0 _ [] [] = _; rw [ZaH]; rfl
 | k s => rw [ST.ty, ZbS]; show (Zaw (Zi.mk []) >>= _) = _; rw [Zr5, Zm]; show ZaH _ 0 _ [] [] = _; rw [ZaH]; rfl
 | a f x ihf ihx =>
  rw [ST.ty, ZbS]
  show (Zaw (Zi.mk []) >>= _) = _
  rw [Zr5, Zm]
  show ZaH _ 0 _ [] [f.ty, x.ty] = _
  rw [ZaH, ihf, Zm, Zdb _ (by simp only [List.length_append, List.length_cons, List.length_nil]; decide), ZaH, ihx, Zm, Zdb _ (by simp only [List.length_append, List.length_cons, List.length_nil]; decide), ZaH]
  rfl
theorem Ztm (t : ST) : Zbj t.ty = some t.ty := by
 induction t with
 | v s => rw [ST.ty, Zbj]; show ZaI _ 0 [] [] = _; rw [ZaI]; rfl
 | k s => rw [ST.ty, Zbj]; show ZaI _ 0 [] [] = _; rw [ZaI]; rfl
 | a f x ihf ihx =>
  rw [ST.ty, Zbj]
  show ZaI _ 0 [] [f.ty, x.ty] = _
  rw [ZaI, ihf, Zm, Zdb _ (by simp only [List.length_append, List.length_cons, List.length_nil]; decide), ZaI, ihx, Zm, Zdb _ (by simp only [List.length_append, List.length_cons, List.length_nil]; decide), ZaI]
  rfl
theorem Zso {L : SB} (hL : ZmB L) {x : ByteArray} {u : ST} (h : lk x L = some u) : u.good := (hL _ (ZuN h)).1
theorem ZpS (t : ST) : t.dep ≤ t.nod := by
 induction t with
 | v s => exact Nat.le_refl _
 | k s => exact Nat.le_refl _
 | a f x ihf ihx => rw [ST.dep, ST.nod]; omega
theorem Zzq {L : SB} (hL : ZmB L) (t : ST) : (t.sub L).nod ≤ 20000 * t.nod := by
 induction t with
 | v s =>
  rw [ST.sub]
  cases h : lk s L with
  | none => simp [ST.nod]
  | some u => have := Zdv.1 (Zso hL h).2; simp only [Option.getD_some, ST.nod]; omega
 | k s => rw [ST.sub, ST.nod]; omega
 | a f x ihf ihx => rw [ST.sub, ST.nod, ST.nod]; omega
theorem ZzA {L : SB} (hL : ZmB L) (t : ST) (ht : t.nms = true) : (t.sub L).nms = true := by
 induction t with
 | v s =>
  rw [ST.sub]
  cases h : lk s L with
  | none => exact ht
  | some u => exact (Zso hL h).1
 | k s => exact ht
 | a f x ihf ihx => rw [ST.nms, Bool.and_eq_true] at ht; rw [ST.sub, ST.nms, ihf ht.1, ihx ht.2]; rfl
theorem ZxU {c : List (ByteArray × Za)} {L : SB} (hc : Zp9 c L) (hL : ZmB L) (t : ST) : t.nod ≤ 20000 → Zbv c t.ty = some ((((t.sub L).nod : Nat) : Int), (((t.sub L).dep : Nat) : Int)) := by
 induction t with
 | v s =>
  intro hb
  rw [ST.ty, Zbv]
  show (Zdf c zty s >>= _) = _
  rw [ZgY hc, Zm, ST.sub]
  cases h : lk s L with
  | some u =>
   have hg := Zdv.1 (Zso hL h).2
   show (Zca u.ty >>= _) = _
   rw [Zyz _ (by rw [ZnX]; have : BIG = 1000000000000 := rfl; omega), Zm, Zu1 _ (by rw [ZnX]; have : BIG = 1000000000000 := rfl; omega), Zm, ZnX, Zsj]
   rfl
  | none =>
   show (Zdf c zty s >>= _) = _
   rw [ZgY hc, Zm, h]
   show Z3 0 0 _ 0 c [] = _
   rw [Z3]; rfl
 | k s =>
  intro hb
  rw [ST.ty, Zbv]
  show (Zdf c zty s >>= _) = _
  rw [ZgY hc, Zm, ST.sub]
  have hf : ∀ r : Za × Bool, (if (r.2 && ((2 : Int) == 1)) = true then (Zca r.1 >>= fun r12 => ZbP r.1 >>= fun r13 => some (r12, r13)) else Zdf c zty s >>= fun r16 => if (r16.2 && ((2 : Int) == 4)) = true then none else Z3 0 0 (Za.mk 2 s (Zi.mk []) []) 0 c []) = some (((1 : Nat) : Int), ((1 : Nat) : Int)) := by
   intro r
   rw [show (r.2 && ((2 : Int) == 1)) = false from by rw [show ((2 : Int) == 1) = false from rfl, Bool.and_false], ifF, ZgY hc, Zm]
   have h2 : ∀ q : Za × Bool, (if (q.2 && ((2 : Int) == 4)) = true then none else Z3 0 0 (Za.mk 2 s (Zi.mk []) []) 0 c []) = Z3 0 0 (Za.mk 2 s (Zi.mk []) []) 0 c [] := fun q => by
    rw [show (q.2 && ((2 : Int) == 4)) = false from by rw [show ((2 : Int) == 4) = false from rfl, Bool.and_false], ifF]
   rw [h2, Z3]; rfl
  exact hf _
 | a f x ihf ihx =>
  intro hb
  rw [ST.nod] at hb
  have e := Zzq hL (.a f x)
  have d1 := ZpS (f.sub L)
  have d2 := ZpS (x.sub L)
  rw [ST.sub, ST.nod, ST.nod] at e
  rw [ST.ty, Zbv]
  show (Zdf c zty (ByteArray.mk #[]) >>= _) = _
  rw [ZgY hc, Zm, ST.sub, ST.nod, ST.dep]
  have hf : ∀ r : Za × Bool, (if (r.2 && ((3 : Int) == 1)) = true then (Zca r.1 >>= fun r12 => ZbP r.1 >>= fun r13 => some (r12, r13)) else Zdf c zty (ByteArray.mk #[]) >>= fun r16 => if (r16.2 && ((3 : Int) == 4)) = true then none else Z3 0 0 (Za.mk 3 (ByteArray.mk #[]) (Zi.mk []) [f.ty, x.ty]) 0 c [f.ty, x.ty]) = some (((1 + (f.sub L).nod + (x.sub L).nod : Nat) : Int), ((max (f.sub L).dep (x.sub L).dep + 1 : Nat) : Int)) := by
   intro r
   rw [show (r.2 && ((3 : Int) == 1)) = false from by rw [show ((3 : Int) == 1) = false from rfl, Bool.and_false], ifF, ZgY hc, Zm]
   have h2 : ∀ q : Za × Bool, (if (q.2 && ((3 : Int) == 4)) = true then none else Z3 0 0 (Za.mk 3 (ByteArray.mk #[]) (Zi.mk []) [f.ty, x.ty]) 0 c [f.ty, x.ty]) = Z3 0 0 (Za.mk 3 (ByteArray.mk #[]) (Zi.mk []) [f.ty, x.ty]) 0 c [f.ty, x.ty] := fun q => by
    rw [show (q.2 && ((3 : Int) == 4)) = false from by rw [show ((3 : Int) == 4) = false from rfl, Bool.and_false], ifF]
   rw [h2, Z3, ihf (by omega), Zm, Z3, ihx (by omega), Zm, Z3]
   have z0 := Zha (f.sub L).dep 0
   rw [Int.natCast_zero, Nat.max_eq_right (Nat.zero_le _)] at z0
   show some (IntKind.i64.wrap (IntKind.i64.wrap (IntKind.i64.wrap (0 + (((f.sub L).nod : Nat) : Int)) + (((x.sub L).nod : Nat) : Int)) + 1), IntKind.i64.wrap ((if (((x.sub L).dep : Nat) : Int) > (if (((f.sub L).dep : Nat) : Int) > 0 then (((f.sub L).dep : Nat) : Int) else 0) then (((x.sub L).dep : Nat) : Int) else (if (((f.sub L).dep : Nat) : Int) > 0 then (((f.sub L).dep : Nat) : Int) else 0)) + 1)) = _
   have w1 : IntKind.i64.wrap (((f.sub L).nod : Nat) : Int) = (((f.sub L).nod : Nat) : Int) := w64 (by omega) (by omega)
   have w2 : IntKind.i64.wrap ((((f.sub L).nod : Nat) : Int) + (((x.sub L).nod : Nat) : Int)) = (((f.sub L).nod : Nat) : Int) + (((x.sub L).nod : Nat) : Int) := w64 (by omega) (by omega)
   rw [z0, Zha, Int.zero_add, w1, w2, w64 (by omega) (by omega), w64 (by omega) (by omega)]
   refine congrArg some (Prod.ext ?_ ?_)
   ·show _ = ((1 + (f.sub L).nod + (x.sub L).nod : Nat) : Int); omega
   ·show _ = ((max (f.sub L).dep (x.sub L).dep + 1 : Nat) : Int); omega
  exact hf _
theorem ZzT {c : List (ByteArray × Za)} {L : SB} (hc : Zp9 c L) (t : ST) : Zci c t.ty = some (t.sub L).ty := by
 induction t with
 | v s =>
  rw [ST.ty, Zci]
  show (Zdf c zty s >>= _) = _
  rw [ZgY hc, Zm, ST.sub]
  cases h : lk s L with
  | some u => show (ZbS u.ty >>= _) = _; rw [Zw3]; rfl
  | none => rfl
 | k s => rw [ST.ty, Zci]; show ZbK _ 0 [] c [] = _; rw [ZbK]; rfl
 | a f x ihf ihx =>
  rw [ST.ty, Zci]
  show ZbK _ 0 [] c [f.ty, x.ty] = _
  rw [ZbK, ihf, Zm, Zdb _ (by simp only [List.length_append, List.length_cons, List.length_nil]; decide), ZbK, ihx, Zm, Zdb _ (by simp only [List.length_append, List.length_cons, List.length_nil]; decide), ZbK]
  rfl
def ZoS (L : SB) (t : ST) : Za := if (t.sub L).big = true then zty else (t.sub L).ty
theorem ZCS (a b : Nat) : (decide (((a : Nat) : Int) > 20000) || decide (((b : Nat) : Int) > 100)) = (decide (20000 < a) || decide (100 < b)) := by
 congr 1
 ·exact decide_eq_decide.2 (by omega)
 ·exact decide_eq_decide.2 (by omega)
theorem Ztl {c : List (ByteArray × Za)} {M : SB} (hc : Zp9 c M) (p : ByteArray × ST) : Zp9 (match Zde p.1 c with | some _ => c | none => Zfm c p.1 p.2.ty) (M ++ [p]) := by
 intro x
 rw [Zpp]
 have e := hc p.1
 cases h : lk p.1 M with
 | some u =>
  rw [h] at e
  rw [e]
  show Zde x c = _
  rw [hc x]
  cases hx : lk x M with
  | some w => rfl
  | none =>
   show none = (lk x [p]).map ST.ty
   rw [lk, if_neg (fun e => by rw [e] at h; rw [h] at hx; cases hx)]; rfl
 | none =>
  rw [h] at e
  rw [e]
  show Zde x (Zfm c p.1 p.2.ty) = _
  rw [Zg0]
  by_cases hx : x = p.1
  ·rw [if_pos hx, hx, h]; show _ = (lk p.1 [p]).map ST.ty; rw [lk, if_pos rfl]; rfl
  ·rw [if_neg hx, hc x]
   cases lk x M with
   | some w => rfl
   | none => show none = (lk x [p]).map ST.ty; rw [lk, if_neg (fun e => hx e.symm)]; rfl
theorem ZuZ (s : List Zf) (t : ST) (ht : t.good) : ∀ (L M : SB) (c : List (ByteArray × Za)) (k : Nat), Zp9 c M → ZmB (M ++ L) → Zb0 s k t.ty c (L.map toB) = some (ZoS (M ++ L) t)
 | [], M, c, k, hc, hg => by
  have hb := Zdv.1 ht.2
  rw [List.append_nil] at hg ⊢
  rw [List.map_nil, Zb0, ZxU hc hg t (by omega), Zm, ZCS]
  show (if (t.sub M).big = true then _ else _) = _
  unfold ZoS
  cases (t.sub M).big with
  | true => rfl
  | false => rw [ifF, ifF, ZzT hc, Zm]
 | p :: L, M, c, k, hc, hg => by
  have hp := hg p (by simp)
  have ih := ZuZ s t ht L (M ++ [p]) (match Zde p.1 c with | some _ => c | none => Zfm c p.1 p.2.ty) (k + 1) (Ztl hc p) (by simpa using hg)
  rw [List.append_assoc, List.singleton_append] at ih
  rw [List.map_cons, Zb0]
  show (ZaG p.1 >>= _) = _
  rw [Zw9 _ (by omega), Zm, hp.2.1]
  show ((Zbm p.2.ty >>= _) >>= _) = _
  rw [Zmn _ hp.1, Zm, Zm]
  show (Zdf c zty p.1 >>= _) = _
  rw [Zdf]
  cases h : Zde p.1 c with
  | some w => rw [h] at ih; exact ih
  | none => rw [h] at ih; exact ih
theorem ZC7 (L : SB) (hL : ZmB L) (t : ST) (ht : t.good) : Zeb (L.map toB) t.ty = some (ZoS L t) := by
 rw [Zeb, Zmn t ht, Zm]
 exact ZuZ _ t ht L [] [] 0 (fun x => rfl) hL
theorem ZsH (s : List Zf) (t : ST) (ht : t.good) : ∀ (L M : SB) (c : List (ByteArray × Za)) (k : Nat), Zp9 c M → ZmB (M ++ L) → ZbB s k t.ty c (L.map toB) = some (ZoS (M ++ L) t)
 | [], M, c, k, hc, hg => by
  have hb := Zdv.1 ht.2
  rw [List.append_nil] at hg ⊢
  rw [List.map_nil, ZbB, ZxU hc hg t (by omega), Zm, ZCS]
  show (if (t.sub M).big = true then _ else _) = _
  unfold ZoS
  cases (t.sub M).big with
  | true => rfl
  | false => rw [ifF, ifF, ZzT hc, Zm]
 | p :: L, M, c, k, hc, hg => by
  have hp := hg p (by simp)
  have ih := ZsH s t ht L (M ++ [p]) (match Zde p.1 c with | some _ => c | none => Zfm c p.1 p.2.ty) (k + 1) (Ztl hc p) (by simpa using hg)
  rw [List.append_assoc, List.singleton_append] at ih
  rw [List.map_cons, ZbB]
  show (ZaG p.1 >>= _) = _
  rw [Zw9 _ (by omega), Zm, hp.2.1]
  show ((Zbm p.2.ty >>= _) >>= _) = _
  rw [Zmn _ hp.1, Zm, Zm]
  show (Zdf c zty p.1 >>= _) = _
  rw [Zdf]
  cases h : Zde p.1 c with
  | some w => rw [h] at ih; exact ih
  | none => rw [h] at ih; exact ih
theorem ZAQ (L : SB) (hL : ZmB L) (t : ST) (ht : t.good) : ZdD (L.map toB) t.ty = some (ZoS L t) := by
 rw [ZdD, Zmn t ht, Zm]
 exact ZsH _ t ht L [] [] 0 (fun x => rfl) hL
theorem Zu6 (L : SB) (t : ST) : ((ZoS L t).fOp == 0) = (t.sub L).big := by
 unfold ZoS
 cases (t.sub L).big with
 | true => rfl
 | false => rw [ifF, ZCl]; cases t.sub L <;> rfl

def bg (v : ByteArray) (u : ST) (p : ByteArray × ST) : ByteArray × ST := (p.1, p.2.sub [(v, u)])
def ZsW (v : ByteArray) (u : ST) (p : ByteArray × ST) : Bool := (p.2.sub [(v, u)]).big
theorem ZEp {A : SB} {x : Nat} (hx : A.length = x) (p q : ByteArray × ST) (B : SB) : (((A ++ p :: B).map toB).set x (toB q)) = ((A ++ [q]) ++ B).map toB := by
 subst hx
 rw [List.map_append, List.map_append, List.map_append, List.map_cons, List.set_append_right _ _ (by simp), List.length_map, Nat.sub_self, List.set_cons_zero]
 simp
theorem ZDJ {A : SB} {x : Nat} (hx : A.length = x) (p : ByteArray × ST) (B : SB) : ((A ++ p :: B).map toB)[x]? = some (toB p) := by
 subst hx; simp
theorem Ztc (v : ByteArray) (u : ST) (hu : ZmB [(v, u)]) (s : Zr) : ∀ (B A : SB) (x : Nat), A.length = x → s.flist.length = x + B.length → ZmB B → x + B.length ≤ 1000000000 →
  (B.any (ZsW v u) = true → ∃ s', Z1 v u.ty s x ((A ++ B).map toB) = some (3, s')) ∧
  (B.any (ZsW v u) = false → Z1 v u.ty s x ((A ++ B).map toB) = some (0, ⟨(A ++ B.map (bg v u) ++ [(v, u)]).map toB, Zfm s.fat v (((A ++ B).length : Nat) : Int)⟩))
 | [], A, x, hx, hs, _, hl => by
  refine ⟨fun h => (by cases h), fun _ => ?_⟩
  simp only [List.length_nil, Nat.add_zero] at hs hl
  rw [Z1, hs, decide_eq_false (by omega), ifF, Zdb]
  ·simp [toB]
  ·simp; omega
 | p :: B, A, x, hx, hs, hB, hl => by
  rw [List.length_cons] at hs hl
  have hp := hB p (by simp)
  have ih := Ztc v u hu s B (A ++ [bg v u p]) (x + 1) (by simp [hx]) (by omega) (fun q hq => hB q (by simp [hq])) (by omega)
  have e : Z1 v u.ty s x ((A ++ p :: B).map toB) = if ZsW v u p = true then some (3, ⟨(A ++ p :: B).map toB, s.fat⟩) else Z1 v u.ty s (x + 1) (((A ++ [bg v u p]) ++ B).map toB) := by
   rw [Z1, hs, decide_eq_true (by omega), ifT, ZDJ hx, Zm]
   show (ZdD ([(v, u)].map toB) p.2.ty >>= _) = _
   rw [ZAQ [(v, u)] hu p.2 hp.1, Zm, Zu6, Zm]
   show (if ZsW v u p = true then _ else _) = _
   cases hb : ZsW v u p with
   | true => rfl
   | false =>
    rw [ifF, ifF]
    have hr : ZoS [(v, u)] p.2 = (p.2.sub [(v, u)]).ty := by unfold ZoS; rw [show (p.2.sub [(v, u)]).big = false from hb, ifF]
    rw [hr]
    show Z1 v u.ty s (x + 1) (((A ++ p :: B).map toB).set x (toB (bg v u p))) = _
    rw [ZEp hx]
  rw [e, List.any_cons]
  cases hb : ZsW v u p with
  | true => exact ⟨fun _ => ⟨_, rfl⟩, fun h => by cases h⟩
  | false =>
   rw [ifF, Bool.false_or]
   refine ⟨ih.1, fun h => ?_⟩
   rw [ih.2 h]
   simp [bg]
def Zoi (L : SB) (v : ByteArray) (t : ST) : Int × SB :=
 if (t.sub L).occ v = true then (23, [])
 else if (t.sub L).big = true then (3, [])
 else if L.any (ZsW v (t.sub L)) = true then (3, [])
 else (0, L.map (bg v (t.sub L)) ++ [(v, t.sub L)])
theorem ZzB {x : ByteArray} {L : SB} (h : lk x L = none) : fi x L = none := by
 rcases Zrw x L with ⟨h1, _⟩ | ⟨i, p, _, _, _, h4⟩
 ·exact h1
 ·rw [h] at h4; cases h4
theorem Zx0 (L : SB) (hL : ZmB L) (v : ByteArray) (hv : ZnC v = true ∧ v.size ≤ 1048576) (hf : lk v L = none) (t : ST) (ht : t.good) (hl : L.length ≤ 1000000000) :
  ∃ s', Za5 ⟨L.map toB, atL 0 L⟩ v t.ty = some ((Zoi L v t).1, s') ∧ ((Zoi L v t).1 = 0 → s' = ⟨(Zoi L v t).2.map toB, atL 0 (Zoi L v t).2⟩) := by
 rw [Za5, ZB6 L hL v t ht hf, Zm]
 unfold Zoi
 cases ho : (t.sub L).occ v with
 | true => exact ⟨_, rfl, fun h => by cases h⟩
 | false =>
  rw [ifF, ifF]
  show ∃ s', (Zeb (L.map toB) t.ty >>= _) = _ ∧ _
  rw [ZC7 L hL t ht, Zm, Zu6]
  cases hb : (t.sub L).big with
  | true => exact ⟨_, rfl, fun h => by cases h⟩
  | false =>
   have hr : ZoS L t = (t.sub L).ty := by unfold ZoS; rw [hb, ifF]
   have hu : ZmB [(v, t.sub L)] := fun p hp => by rw [List.mem_singleton] at hp; subst hp; exact ⟨⟨ZzA hL t ht.1, hb⟩, hv⟩
   rw [ifF, ifF, hr]
   obtain ⟨h1, h2⟩ := Ztc v (t.sub L) hu ⟨L.map toB, atL 0 L⟩ L [] 0 rfl (by simp) hL (by simpa using hl)
   rw [List.nil_append] at h1 h2
   cases hg : L.any (ZsW v (t.sub L)) with
   | true =>
    obtain ⟨s', h1⟩ := h1 hg
    exact ⟨s', h1, fun h => by cases h⟩
   | false =>
    refine ⟨_, h2 hg, fun _ => ?_⟩
    rw [List.nil_append, Zsm v (t.sub L) L 0 _ (ZzB hf) (by omega)]
    show _ = Zr.mk ((L.map (bg v (t.sub L)) ++ [(v, t.sub L)]).map toB) (atL 0 (L.map (bg v (t.sub L)) ++ [(v, t.sub L)]))
    congr 1
    have : ∀ (L M : SB) (g : ByteArray × ST → ST) (k : Nat), atL k (L.map (fun p => (p.1, g p)) ++ M) = atL k (L ++ M) := by
     intro L M g
     induction L with
     | nil => intro k; rfl
     | cons p L ih => intro k; rw [List.map_cons, List.cons_append, List.cons_append, atL, atL, ih]
    exact (this L _ (fun p => p.2.sub [(v, t.sub L)]) 0).symm

theorem Zqv (x v : ByteArray) (u : ST) : lk x [(v, u)] = if v = x then some u else none := by rw [lk]; rfl

abbrev SP := List (ST × ST)
def toP (p : ST × ST) : Zo := Zo.mk p.1.ty p.2.ty
def stk (T : SP) : List Zo := T.reverse.map toP
theorem Zyk (p : ST × ST) (T : SP) : stk (p :: T) = stk T ++ [toP p] := by simp [stk]
theorem Zzw (T : SP) : (stk T).length = T.length := by simp [stk]
theorem ZA9 {α : Type} (S : List α) (q : α) (h : S.length ≤ 1000000000) : ixI (S ++ [q]) (IntKind.i64.wrap ((((S ++ [q]).length : Nat) : Int) - 1)) = some q := by
 rw [List.length_append, List.length_cons, List.length_nil, w64 (by omega) (by omega), show ((S.length + (0 + 1) : Nat) : Int) - 1 = ((S.length : Nat) : Int) from by omega, Zly]
 simp
theorem ZBA {α : Type} (S : List α) (q : α) (h : S.length ≤ 1000000000) : slL (S ++ [q]) ((0 : Nat) : Int) (IntKind.i64.wrap ((((S ++ [q]).length : Nat) : Int) - 1)) = some S := by
 rw [List.length_append, List.length_cons, List.length_nil, w64 (by omega) (by omega), show ((S.length + (0 + 1) : Nat) : Int) - 1 = ((S.length : Nat) : Int) from by omega]
 unfold slL
 rw [if_pos ⟨by omega, by omega, by simp; omega⟩]
 simp
def Zou (L : SB) (S : List Zo) (A B : Za) : Option (Int × Zr × List Zo) :=
 if (((A.fOp == 1) && (B.fOp == 1)) && (A.fName.toList == B.fName.toList)) = true then Zv 0 (atL 0 L) (L.map toB) S
 else if (A.fOp == 1) = true then Za5 ⟨L.map toB, atL 0 L⟩ A.fName B >>= fun r => Zv r.1 r.2.fat r.2.flist S
 else if (B.fOp == 1) = true then Za5 ⟨L.map toB, atL 0 L⟩ B.fName A >>= fun r => Zv r.1 r.2.fat r.2.flist S
 else if (((A.fOp == 2) && (B.fOp == 2)) && (A.fName.toList == B.fName.toList)) = true then Zv 0 (atL 0 L) (L.map toB) S
 else if ((A.fOp == 3) && (B.fOp == 3)) = true then
  (ixI A.fKids 1) >>= fun x1 => (ixI B.fKids 1) >>= fun y1 => (ixI A.fKids 0) >>= fun x0 => (ixI B.fKids 0) >>= fun y0 =>
  Zac ((S.length + ([(Zo.mk x1 y1), (Zo.mk x0 y0)]).length) * 144 ≤ 140737488355328) >>= fun _ =>
  Zv 0 (atL 0 L) (L.map toB) (S ++ ([(Zo.mk x1 y1), (Zo.mk x0 y0)]))
 else Zv 22 (atL 0 L) (L.map toB) S
theorem Zuc (L : SB) (T : SP) (a b : ST) (h : T.length ≤ 1000000000) : ZJ (atL 0 L) (L.map toB) (stk ((a, b) :: T)) = Zou L (stk T) (a.res L).ty (b.res L).ty := by
 have hs : (stk T).length ≤ 1000000000 := by rw [Zzw]; exact h
 rw [Zyk, ZJ, ZA9 _ _ hs, ZBA _ _ hs, decide_eq_true (by simp <;> omega), ifT, Zm]
 show (Zas ⟨L.map toB, atL 0 L⟩ a.ty >>= _) = _
 rw [ZzJ, Zm, Zm]
 show (Zas ⟨L.map toB, atL 0 L⟩ b.ty >>= _) = _
 rw [ZzJ]; rfl
theorem ZzW (e : Int) (he : e ≠ 0) (at_ : List (ByteArray × Int)) (l : List Zf) (S : List Zo) : Zv e at_ l S = some (e, ⟨[], []⟩, S) := by
 have h1 : (e == 0) = false := by rw [beq_eq_false_iff_ne]; exact he
 have h2 : (e != 0) = true := by rw [bne, h1]; rfl
 rw [Zv, h2, ifT]
theorem ZE7 (at_ : List (ByteArray × Int)) (l : List Zf) (S : List Zo) : Zv 0 at_ l S = ZJ at_ l S := by
 rw [Zv]; rfl
theorem Zza {p : Prop} [Decidable p] {α : Type} (x y : α) : (if decide p = true then x else y) = if p then x else y := by by_cases h : p <;> simp [h]
theorem ZsN (L : SB) (S : List Zo) (x : ByteArray) (t : ST) (h : ∀ y, t = .v y → x ≠ y) : Zou L S (ST.v x).ty t.ty = (Za5 ⟨L.map toB, atL 0 L⟩ x t.ty >>= fun r => Zv r.1 r.2.fat r.2.flist S) := by
 unfold Zou
 cases t with
 | v y =>
  show (if (x.toList == y.toList) = true then _ else _) = _
  rw [ZiA, decide_eq_false (h y rfl), ifF]; rfl
 | k s => rfl
 | a f z => rfl
theorem Zxi (L : SB) (S : List Zo) (x y : ByteArray) : Zou L S (ST.k x).ty (ST.k y).ty = if x = y then Zv 0 (atL 0 L) (L.map toB) S else Zv 22 (atL 0 L) (L.map toB) S := by
 unfold Zou
 show (if (x.toList == y.toList) = true then _ else _) = _
 rw [ZiA, Zza]; rfl
theorem ZlL {f x : ST} (h : (ST.a f x).good) : f.good ∧ x.good := by
 have h1 := h.1
 have h2 := Zdv.1 h.2
 rw [ST.nms, Bool.and_eq_true] at h1
 rw [ST.nod, ST.dep] at h2
 exact ⟨⟨h1.1, Zdv.2 (by omega)⟩, ⟨h1.2, Zdv.2 (by omega)⟩⟩

def ZuL (p : Zo) : Bool := ZgE p.e0 && ZgE p.e1
theorem Zwr {α : Type} {l : List α} {k : Nat} {x : α} (h : l[k]? = some x) : l.take (k + 1) = l.take k ++ [x] := by
 rw [List.take_add_one, h]; rfl
theorem Zyo {α : Type} {l : List α} {k : Nat} {x : α} (h : l[k]? = some x) : (l.drop k).reverse = (l.drop (k + 1)).reverse ++ [x] := by
 obtain ⟨hk, rfl⟩ := List.getElem?_eq_some_iff.1 h
 rw [List.drop_eq_getElem_cons hk, List.reverse_cons]
def ZBZ (pairs : List Zo) : Option (List Zf × Int) :=
 ZcL (Zr.mk ([] : List Zf) ([] : List (ByteArray × Int))) pairs.reverse >>= fun Zn9 => Zcf Zn9.2.1.flist >>= fun ZsS => some (ZsS, Zn9.1)
theorem Zu7 (pairs : List Zo) (hl : pairs.length ≤ 1000000000) (hv : ∀ p ∈ pairs, p.e0.vol ≤ 1000000000 ∧ p.e1.vol ≤ 1000000000) : ∀ k : Nat, k ≤ pairs.length →
  ZcX pairs (((k : Nat) : Int) - 1) (pairs.drop k).reverse = if (pairs.take k).all ZuL = true then ZBZ pairs else some ([], 1)
 | 0, _ => by rw [ZcX, decide_eq_false (by omega), ifF]; rfl
 | k + 1, hk => by
  have hx : pairs[k]? = some pairs[k] := List.getElem?_eq_getElem hk
  have hm := hv _ (List.mem_of_getElem? hx)
  generalize pairs[k] = x at hx hm
  rw [show ((k + 1 : Nat) : Int) - 1 = ((k : Nat) : Int) from by omega, ZcX, decide_eq_true (Int.natCast_nonneg k), ifT, Zly, hx, Zm, Zmc _ hm.1, Zm, Zwr hx, List.all_append]
  have e1 : ([x].all ZuL) = ZuL x := by simp
  have ih := Zu7 pairs hl hv k (by omega)
  rw [e1]; unfold ZuL at ih ⊢
  cases h0 : ZgE x.e0 with
  | false => rw [Bool.false_and, Bool.and_false]; rfl
  | true =>
   show ((some x >>= fun x93 => Za8 x93.e1 >>= fun r94 => some (!r94)) >>= _) = _
   rw [Zm, Zmc _ hm.2, Zm, Zm]
   cases h1 : ZgE x.e1 with
   | false => rw [Bool.and_false, Bool.and_false]; rfl
   | true =>
    rw [Bool.true_and, Bool.and_true, Bool.not_true, ifF, Zm, Zdb _ (by simp; omega), ← Zyo hx, w64 (by omega) (by omega), ih]
theorem ZDi (pairs : List Zo) (hl : pairs.length ≤ 1000000000) (hv : ∀ p ∈ pairs, p.e0.vol ≤ 1000000000 ∧ p.e1.vol ≤ 1000000000) : Zf1 pairs = if pairs.all ZuL = true then ZBZ pairs else some ([], 1) := by
 have := Zu7 pairs hl hv pairs.length (Nat.le_refl _)
 rw [List.drop_length, List.take_length] at this
 rw [Zf1, w64 (by omega) (by omega)]
 exact this
theorem Zvt (l : List Zf) : ∀ (L A : SB) (k : Nat), A.length + L.length ≤ 1000000000 → Zcn (A.map toB) l k (L.map toB) = some ((A ++ L).map toB)
 | [], A, k, _ => by rw [List.map_nil, Zcn, List.append_nil]
 | p :: L, A, k, h => by
  rw [List.length_cons] at h
  have ih := Zvt l L (A ++ [p]) (k + 1) (by simp; omega)
  rw [List.map_cons, Zcn]
  show (Zbj p.2.ty >>= _) = _
  rw [Ztm, Zm, Zdb _ (by simp; omega)]
  have e : A.map toB ++ [Zf.mk (toB p).fName p.2.ty] = (A ++ [p]).map toB := by simp [toB]
  rw [e, ih, List.append_assoc]; rfl
theorem ZpX (L : SB) (h : L.length ≤ 1000000000) : Zcf (L.map toB) = some (L.map toB) := by
 have := Zvt (L.map toB) L [] 0 (by simpa using h)
 rw [Zcf]; exact this
theorem Zn1 : Z9 (Zi.mk []) (Zi.mk []) = some true := by
 rw [Z9]
 show ZaW 0 _ _ [] = _
 rw [ZaW]
theorem Zs6 (s : ByteArray) : Zb1 [] s = some (-1) := by
 rw [Zb1, ZbY]; rfl

def bA : ByteArray := ByteArray.mk #[97]
def ZlP : ByteArray := ByteArray.mk #[73, 110, 116]
def Zvc : ByteArray := ByteArray.mk #[66, 111, 111, 108]
def ZuD : ByteArray := ByteArray.mk #[91, 93]
theorem okA : ZnC bA = true ∧ bA.size ≤ 1048576 := ⟨by decide +kernel, by decide +kernel⟩
theorem gA : (ST.v bA).good := ⟨by decide +kernel, by decide +kernel⟩
theorem ZAT : (ST.k ZlP).good := ⟨by decide +kernel, by decide +kernel⟩
theorem ZCh : (ST.k Zvc).good := ⟨by decide +kernel, by decide +kernel⟩
theorem ZCW : (ST.a (.k ZuD) (.v bA)).good := ⟨by decide +kernel, by decide +kernel⟩
theorem Zty {s : ST} (h : s.good) (hn : s.nod ≤ 500) : s.ty.vol ≤ 1000000000 := by have := Zqp s h.1; omega
theorem Zuk (a b : ST) (ha : a.good) (hb : b.good) (na : a.nod ≤ 500) (nb : b.nod ≤ 500) : Zb6 a.ty b.ty = (ZJ (atL 0 []) (([] : SB).map toB) (stk [(a, b)]) >>= fun Zn9 => Zcf Zn9.2.1.flist >>= fun ZsS => some (ZsS, Zn9.1)) := by
 rw [Zb6, ZDi _ (by simp) (fun p hp => by rw [List.mem_singleton] at hp; subst hp; exact ⟨Zty ha na, Zty hb nb⟩)]
 have : [Zo.mk a.ty b.ty].all ZuL = true := by simp [ZuL, Zhh ha, Zhh hb]
 rw [if_pos this]
 show ((ZJ (atL 0 []) (([] : SB).map toB) (stk [(a, b)]) >>= fun Zn9 => Zcf Zn9.2.1.flist >>= fun ZsS => some (ZsS, Zn9.1)) >>= fun r1 => some (r1.1, r1.2)) = _
 cases ZJ (atL 0 []) (([] : SB).map toB) (stk [(a, b)]) with
 | none => rfl
 | some r =>
  rw [Zm]
  cases Zcf r.2.1.flist <;> rfl
theorem Zs7 : ZmB [] := fun p hp => absurd hp List.not_mem_nil
theorem ex1 : Zb6 (ST.v bA).ty (ST.k ZlP).ty = some ([Zf.mk bA (ST.k ZlP).ty], 0) := by
 rw [Zuk _ _ gA ZAT (by decide) (by decide), Zuc [] [] _ _ (by decide)]
 show (Zou [] (stk []) (ST.v bA).ty (ST.k ZlP).ty >>= _) = _
 rw [ZsN _ _ _ _ (fun y h => by cases h)]
 obtain ⟨s', h1, h2⟩ := Zx0 [] Zs7 bA okA rfl (.k ZlP) ZAT (by decide)
 have hb : Zoi [] bA (.k ZlP) = (0, [(bA, .k ZlP)]) := rfl
 rw [hb] at h1 h2
 rw [h1, h2 rfl, Zm]
 show (Zv 0 (atL 0 [(bA, .k ZlP)]) ([(bA, .k ZlP)].map toB) [] >>= _) = _
 rw [ZE7, ZJ]
 show (Zcf ([(bA, .k ZlP)].map toB) >>= _) = _
 rw [ZpX _ (by simp)]
 rfl
theorem ex2 : Zb6 (ST.v bA).ty (ST.a (.k ZuD) (.v bA)).ty = some ([], 23) := by
 rw [Zuk _ _ gA ZCW (by decide) (by decide), Zuc [] [] _ _ (by decide)]
 show (Zou [] (stk []) (ST.v bA).ty (ST.a (.k ZuD) (.v bA)).ty >>= _) = _
 rw [ZsN _ _ _ _ (fun y h => by cases h)]
 obtain ⟨s', h1, h2⟩ := Zx0 [] Zs7 bA okA rfl (.a (.k ZuD) (.v bA)) ZCW (by decide)
 have hb : Zoi [] bA (.a (.k ZuD) (.v bA)) = (23, []) := by
  unfold Zoi
  have : ((ST.a (.k ZuD) (.v bA)).sub []).occ bA = true := by simp [ST.sub, ST.occ, lk]
  rw [if_pos this]
 rw [hb] at h1
 rw [h1, Zm, ZzW 23 (by decide), Zm]
 show (Zcf (([] : SB).map toB) >>= _) = _
 rw [ZpX _ (by simp)]
 rfl
theorem ex3 : Zb6 (ST.k ZlP).ty (ST.k Zvc).ty = some ([], 22) := by
 rw [Zuk _ _ ZAT ZCh (by decide) (by decide), Zuc [] [] _ _ (by decide)]
 show (Zou [] (stk []) (ST.k ZlP).ty (ST.k Zvc).ty >>= _) = _
 rw [Zxi, if_neg (by decide +kernel), ZzW 22 (by decide), Zm]
 show (Zcf (([] : SB).map toB) >>= _) = _
 rw [ZpX _ (by simp)]
 rfl
theorem ZD2 : ZbT = some true := by
 unfold ZbT ZcF
 rw [Zm]
 show (Zb6 (ST.v bA).ty (ST.k ZlP).ty >>= _) = _
 rw [ex1, Zm, Zm]
 show (Zb6 (ST.v bA).ty (ST.a (.k ZuD) (.v bA)).ty >>= _) = _
 rw [ex2, Zm, Zm, Zm]
 show (Zb6 (ST.k ZlP).ty (ST.k Zvc).ty >>= _) = _
 rw [ex3, Zm]
 show (some (bA.toList == bA.toList) >>= _) = _
 rw [Zm, ZiA, decide_eq_true rfl, ifT]
 show ((some (ZlP.toList == ZlP.toList)) >>= _) = _
 rw [Zm, ZiA, decide_eq_true rfl]
 rfl
theorem ZuY (l : List Za) : ∀ (xs : List Za) (n : Int) (k : Nat), (∀ t ∈ xs, t.vol ≤ 1000000000) → ∃ b, ZaR l n k xs = some b
 | [], n, k, _ => ⟨_, by rw [ZaR]⟩
 | t :: xs, n, k, h => by
  have hB : BIG = 1000000000000 := rfl
  have ht := h t (by simp)
  have hn := Zsd t
  rw [ZaR, Zw5 t (by omega), Zm, ZvS t (by omega), Zm]
  split
  ·exact ⟨false, rfl⟩
  ·exact ZuY l xs _ _ fun u hu => h u (by simp [hu])
theorem Zyd (l : List Za) (h : ∀ t ∈ l, t.vol ≤ 1000000000) : ∃ b, ZcN l = some b := by
 rw [ZcN]; exact ZuY l l 0 0 h

deriving instance DecidableEq for ST
theorem ZFx (a : ST) : ∀ b : ST, Za1 a.ty b.ty = some (decide (a = b)) := by
 induction a with
 | v s =>
  intro b
  cases b with
  | v t =>
   rw [ST.ty, ST.ty, Za1]
   show some (s.toList == t.toList) = _
   rw [ZiA]; simp only [ST.v.injEq]
  | k t => rw [ST.ty, ST.ty, Za1]; rfl
  | a g y => rw [ST.ty, ST.ty, Za1]; rfl
 | k s =>
  intro b
  cases b with
  | v t => rw [ST.ty, ST.ty, Za1]; rfl
  | k t =>
   rw [ST.ty, ST.ty, Za1]
   show some (s.toList == t.toList) = _
   rw [ZiA]; simp only [ST.k.injEq]
  | a g y => rw [ST.ty, ST.ty, Za1]; rfl
 | a f x ihf ihx =>
  intro b
  cases b with
  | v t => rw [ST.ty, ST.ty, Za1]; rfl
  | k t => rw [ST.ty, ST.ty, Za1]; rfl
  | a g y =>
   rw [ST.ty, ST.ty, Za1]
   show ZbD _ 0 _ [f.ty, x.ty] = _
   rw [ZbD]
   show (some g.ty >>= _) = _
   rw [Zm, ihf g, Zm]
   by_cases h1 : f = g
   ·subst h1
    rw [decide_eq_true rfl]
    show ZbD _ (0 + 1) _ [x.ty] = _
    rw [ZbD]
    show (some y.ty >>= _) = _
    rw [Zm, ihx y, Zm]
    by_cases h2 : x = y
    ·subst h2
     rw [decide_eq_true rfl]
     show ZbD _ (0 + 1 + 1) _ [] = _
     rw [ZbD]; simp
    ·rw [decide_eq_false h2]; simp [h2]
   ·rw [decide_eq_false h1]; simp [h1]
theorem Zzt (a : ST) : ∀ b : ST, ZR a.ty b.ty [] [] = some (decide (a = b)) := by
 induction a with
 | v s =>
  intro b
  cases b with
  | v t =>
   rw [ST.ty, ST.ty, ZR]
   show ((Z9 (Zi.mk []) (Zi.mk []) >>= _) >>= _) = _
   rw [Zn1, Zm, Zm]
   show (Zb1 [] s >>= fun r60 => Zb1 [] t >>= fun r61 => _) = _
   rw [Zs6, Zs6, Zm, Zm]
   show some (true && (false || (s.toList == t.toList))) = _
   rw [ZiA]; simp only [ST.v.injEq, Bool.true_and, Bool.false_or]
  | k t => rw [ST.ty, ST.ty, ZR]; rfl
  | a g y => rw [ST.ty, ST.ty, ZR]; rfl
 | k s =>
  intro b
  cases b with
  | v t => rw [ST.ty, ST.ty, ZR]; rfl
  | k t =>
   rw [ST.ty, ST.ty, ZR]
   show ((Z9 (Zi.mk []) (Zi.mk []) >>= _) >>= _) = _
   rw [Zn1, Zm, Zm]
   show (if (!(s.toList == t.toList)) = true then _ else ZaO [] [] _ _) = _
   rw [ZiA]
   by_cases h : s = t
   ·subst h
    rw [decide_eq_true rfl, Bool.not_true, ifF, ZaO]
    show Z8 [] [] 0 _ _ [] = _
    rw [Z8]; simp
   ·rw [decide_eq_false h, Bool.not_false, ifT]; simp [h]
  | a g y => rw [ST.ty, ST.ty, ZR]; rfl
 | a f x ihf ihx =>
  intro b
  cases b with
  | v t => rw [ST.ty, ST.ty, ZR]; rfl
  | k t => rw [ST.ty, ST.ty, ZR]; rfl
  | a g y =>
   rw [ST.ty, ST.ty, ZR]
   show ((Z9 (Zi.mk []) (Zi.mk []) >>= _) >>= _) = _
   rw [Zn1, Zm, Zm]
   show (if (!((ByteArray.mk #[]).toList == (ByteArray.mk #[]).toList)) = true then _ else ZaO [] [] _ _) = _
   rw [ZiA, decide_eq_true rfl, Bool.not_true, ifF, ZaO]
   show Z8 [] [] 0 _ _ [f.ty, x.ty] = _
   rw [Z8]
   show (some g.ty >>= _) = _
   rw [Zm, ihf g, Zm]
   by_cases h1 : f = g
   ·subst h1
    rw [decide_eq_true rfl]
    show Z8 [] [] (0 + 1) _ _ [x.ty] = _
    rw [Z8]
    show (some y.ty >>= _) = _
    rw [Zm, ihx y, Zm]
    by_cases h2 : x = y
    ·subst h2
     rw [decide_eq_true rfl]
     show Z8 [] [] (0 + 1 + 1) _ _ [] = _
     rw [Z8]; simp
    ·rw [decide_eq_false h2]; simp [h2]
   ·rw [decide_eq_false h1]; simp [h1]
theorem Zzb (a b : ST) (ha : a.good) (hb : b.good) : Zec a.ty b.ty = some (decide (a = b)) := by
 rw [Zec, Zmn a ha, Zm, Zmn b hb]
 show ((Za1 a.ty b.ty >>= fun r4 => some r4) >>= fun c5 => some c5) = _
 rw [ZFx]; rfl
theorem Zy3 (a b : ST) (ha : a.good) (hb : b.good) : Zcu a.ty b.ty = some (decide (a = b)) := by
 rw [Zcu, ZyF a ha, Zm, ZyF b hb]
 show ((ZR a.ty b.ty [] [] >>= fun r4 => some r4) >>= fun c5 => some c5) = _
 rw [Zzt]; rfl

def ST.mat : ST → ST → SB → Option SB
 | .v x, t, L => match lk x L with | some u => if u = t then some L else none | none => some (L ++ [(x, t)])
 | .k x, .k y, L => if x = y then some L else none
 | .a f x, .a g y, L => match f.mat g L with | some M => x.mat y M | none => none
 | .k _, .v _, _ => none
 | .k _, .a _ _, _ => none
 | .a _ _, .v _, _ => none
 | .a _ _, .k _, _ => none
theorem ZoZ (p : ST) : ∀ (t : ST) (L M : SB), p.mat t L = some M → M.length ≤ L.length + p.nod := by
 induction p with
 | v x =>
  intro t L M h
  rw [ST.mat] at h
  split at h
  ·split at h
   ·injection h with h; subst h; simp
   ·cases h
  ·injection h with h; subst h; simp [ST.nod]
 | k x =>
  intro t L M h
  cases t with
  | k y => rw [ST.mat] at h; split at h; injection h with h; subst h; simp; cases h
  | v y => rw [ST.mat] at h; cases h
  | a g y => rw [ST.mat] at h; cases h
 | a f x ihf ihx =>
  intro t L M h
  cases t with
  | a g y =>
   rw [ST.mat] at h
   split at h
   ·rename_i N hN
    have h1 := ihf g L N hN
    have h2 := ihx y N M h
    simp only [ST.nod]; omega
   ·cases h
  | v y => rw [ST.mat] at h; cases h
  | k y => rw [ST.mat] at h; cases h
def Znr (L : SB) : Prop := ∀ p ∈ L, p.2.good
theorem Zs9 {L : SB} (hL : Znr L) {x : ByteArray} {u : ST} (h : lk x L = some u) : u.good := hL _ (ZuN h)
theorem ZwS {L : SB} (hL : Znr L) {x : ByteArray} {t : ST} (ht : t.good) : Znr (L ++ [(x, t)]) := fun p hp => by
 rcases List.mem_append.1 hp with h | h
 ·exact hL p h
 ·rw [List.mem_singleton] at h; subst h; exact ht
theorem Zp5 (p : ST) : ∀ (t : ST) (L M : SB), t.good → Znr L → p.mat t L = some M → Znr M := by
 induction p with
 | v x =>
  intro t L M ht hL h
  rw [ST.mat] at h
  split at h
  ·split at h
   ·injection h with h; subst h; exact hL
   ·cases h
  ·injection h with h; subst h; exact ZwS hL ht
 | k x =>
  intro t L M ht hL h
  cases t with
  | k y => rw [ST.mat] at h; split at h; injection h with h; subst h; exact hL; cases h
  | v y => rw [ST.mat] at h; cases h
  | a g y => rw [ST.mat] at h; cases h
 | a f x ihf ihx =>
  intro t L M ht hL h
  cases t with
  | a g y =>
   rw [ST.mat] at h
   obtain ⟨hg, hy⟩ := ZlL ht
   split at h
   ·rename_i N hN
    exact ihx y N M hy (ihf g L N hg hL hN) h
   ·cases h
  | v y => rw [ST.mat] at h; cases h
  | k y => rw [ST.mat] at h; cases h
theorem gp (n m : Nat) (h : n ≤ 1000000000) (k : Nat) (hk : m = 1) : (Zac ((n + m) * 88 ≤ 140737488355328)) = some () := by
 unfold Zac; rw [if_pos (by subst hk; omega)]
theorem ZCT (p : ST) : ∀ (t : ST) (L : SB), t.good → Znr L → L.length + p.nod ≤ 1000000000 →
  ∃ m, Zaa ⟨L.map toB, atL 0 L⟩ p.ty t.ty = some ((p.mat t L).isSome, m) ∧ ∀ M, p.mat t L = some M → m = ⟨M.map toB, atL 0 M⟩ := by
 induction p with
 | v x =>
  intro t L ht hL hl
  rw [ST.ty, Zaa]
  show ∃ m, (Zdf (atL 0 L) 0 x >>= _) = _ ∧ _
  rw [ZpD, Zm, ST.mat]
  rcases Zrw x L with ⟨h1, h2⟩ | ⟨i, p, h1, h2, h3, h4⟩
  ·rw [h1, h2]
   show ∃ m, (Zac (((L.map toB).length + 1) * 88 ≤ 140737488355328) >>= _) = _ ∧ _
   rw [gp _ 1 (by simp [ST.nod] at hl ⊢; omega) 0 rfl, Zm]
   refine ⟨_, rfl, fun M hM => ?_⟩
   injection hM with hM
   subst hM
   show Za6.mk (L.map toB ++ [Zf.mk x t.ty]) (Zfm (atL 0 L) x (((L.map toB).length : Nat) : Int)) = _
   rw [List.length_map, Zsm x t L 0 L.length h1 (by simp), List.map_append]
   rfl
  ·rw [h1, h4]
   show ∃ m, (ixI (L.map toB) ((i : Nat) : Int) >>= _) = _ ∧ _
   rw [Zly, List.getElem?_map, h2]
   show ∃ m, (some (toB p) >>= _) = _ ∧ _
   rw [Zm]
   show ∃ m, (Zec p.2.ty t.ty >>= _) = _ ∧ _
   rw [Zzb p.2 t (Zs9 hL h4) ht, Zm]
   refine ⟨⟨L.map toB, atL 0 L⟩, ?_, fun M hM => ?_⟩
   ·by_cases he : p.2 = t
    ·simp [he]
    ·simp [he]
   ·by_cases he : p.2 = t
    ·simp only [he, if_true, Option.some.injEq] at hM; subst hM; rfl
    ·simp [he] at hM
 | k x =>
  intro t L ht hL hl
  rw [ST.ty, Zaa]
  cases t with
  | k y =>
   show ∃ m, (if ((false || !(x.toList == y.toList)) || false) = true then _ else _) = _ ∧ _
   rw [ZiA, ST.mat, Bool.false_or, Bool.or_false]
   by_cases h : x = y
   ·subst h
    rw [decide_eq_true rfl, Bool.not_true, ifF]
    show ∃ m, ZO _ 0 _ (L.map toB) (atL 0 L) [] = _ ∧ _
    rw [ZO]
    exact ⟨⟨L.map toB, atL 0 L⟩, by simp, fun M hM => by simp at hM; subst hM; rfl⟩
   ·rw [decide_eq_false h, Bool.not_false, ifT]
    exact ⟨⟨L.map toB, atL 0 L⟩, by simp [h], fun M hM => by simp [h] at hM⟩
  | v y => exact ⟨_, rfl, fun M hM => by rw [ST.mat] at hM; cases hM⟩
  | a g y => exact ⟨_, rfl, fun M hM => by rw [ST.mat] at hM; cases hM⟩
 | a f x ihf ihx =>
  intro t L ht hL hl
  rw [ST.ty, Zaa]
  cases t with
  | v y => exact ⟨_, rfl, fun M hM => by rw [ST.mat] at hM; cases hM⟩
  | k y => exact ⟨_, rfl, fun M hM => by rw [ST.mat] at hM; cases hM⟩
  | a g y =>
   obtain ⟨hg, hy⟩ := ZlL ht
   simp only [ST.nod] at hl
   show ∃ m, (if ((false || !((ByteArray.mk #[]).toList == (ByteArray.mk #[]).toList)) || false) = true then _ else _) = _ ∧ _
   rw [ZiA, decide_eq_true rfl, Bool.false_or, Bool.or_false, Bool.not_true, ifF]
   show ∃ m, ZO _ 0 _ (L.map toB) (atL 0 L) [f.ty, x.ty] = _ ∧ _
   rw [ZO]
   show ∃ m, (some g.ty >>= _) = _ ∧ _
   rw [Zm]
   obtain ⟨m1, h1, h2⟩ := ihf g L hg hL (by omega)
   rw [h1, Zm, ST.mat]
   cases hm : f.mat g L with
   | none => exact ⟨_, rfl, fun M hM => by cases hM⟩
   | some N =>
    rw [h2 N hm]
    show ∃ m, ZO _ (0 + 1) _ (N.map toB) (atL 0 N) [x.ty] = _ ∧ _
    rw [ZO]
    show ∃ m, (some y.ty >>= _) = _ ∧ _
    rw [Zm]
    have hn := ZoZ f g L N hm
    obtain ⟨m3, h3, h4⟩ := ihx y N hy (Zp5 f g L N hg hL hm) (by omega)
    rw [h3, Zm]
    show ∃ m, _ = some ((x.mat y N).isSome, m) ∧ ∀ M, x.mat y N = some M → _
    cases hm2 : x.mat y N with
    | none => exact ⟨_, rfl, fun M hM => by cases hM⟩
    | some M =>
     rw [h4 M hm2]
     show ∃ m, ZO _ (0 + 1 + 1) _ (M.map toB) (atL 0 M) [] = _ ∧ _
     rw [ZO]
     exact ⟨_, rfl, fun M' hM => by injection hM with hM; subst hM; rfl⟩
theorem Zrr (s : List Zf) (x : ByteArray) : ∀ (L : SB) (k : Nat), ZaP x k s (L.map toB) = some (match fi x L with | some i => ((k + i : Nat) : Int) | none => -1)
 | [], k => by rw [List.map_nil, ZaP]; rfl
 | p :: L, k => by
  rw [List.map_cons, ZaP, ZiA, fi]
  show (if decide (p.1 = x) = true then _ else _) = _
  by_cases h : p.1 = x
  ·rw [decide_eq_true h, ifT, if_pos h]; rfl
  ·rw [decide_eq_false h, ifF, if_neg h, Zrr s x L (k + 1)]
   cases fi x L with
   | none => rfl
   | some i => simp only [Option.map_some]; congr 2; omega
theorem ZuT (x : ByteArray) (L : SB) : ZbG (L.map toB) x = some (match fi x L with | some i => ((i : Nat) : Int) | none => -1) := by
 rw [ZbG, Zrr]
 cases fi x L with
 | none => rfl
 | some i => simp only [Nat.zero_add]
theorem ZzX (p : ST) : ∀ (t : ST) (L : SB), t.good → Znr L → L.length + p.nod ≤ 1000000000 →
  ∃ s s', ZT (L.map toB) p.ty t.ty = some (s, (p.mat t L).isSome, s') ∧ ∀ M, p.mat t L = some M → s = M.map toB ∧ s' = M.map toB := by
 induction p with
 | v x =>
  intro t L ht hL hl
  rw [ST.ty, ZT]
  show ∃ s s', (ZbG (L.map toB) x >>= _) = _ ∧ _
  rw [ZuT, Zm, ST.mat]
  rcases Zrw x L with ⟨h1, h2⟩ | ⟨i, p, h1, h2, h3, h4⟩
  ·rw [h1, h2]
   show ∃ s s', (Zac (((L.map toB).length + 1) * 88 ≤ 140737488355328) >>= _) = _ ∧ _
   rw [gp _ 1 (by simp [ST.nod] at hl ⊢; omega) 0 rfl, Zm]
   refine ⟨_, _, rfl, fun M hM => ?_⟩
   injection hM with hM
   subst hM
   rw [List.map_append]
   exact ⟨rfl, rfl⟩
  ·rw [h1, h4]
   show ∃ s s', (if decide (((i : Nat) : Int) ≥ 0) = true then _ else _) = _ ∧ _
   rw [decide_eq_true (Int.natCast_nonneg i), ifT]
   show ∃ s s', (ixI (L.map toB) ((i : Nat) : Int) >>= _) = _ ∧ _
   rw [Zly, List.getElem?_map, h2]
   show ∃ s s', (some (toB p) >>= _) = _ ∧ _
   rw [Zm]
   show ∃ s s', (Zcu p.2.ty t.ty >>= _) = _ ∧ _
   rw [Zy3 p.2 t (Zs9 hL h4) ht, Zm]
   refine ⟨L.map toB, L.map toB, ?_, fun M hM => ?_⟩
   ·by_cases he : p.2 = t
    ·simp [he]
    ·simp [he]
   ·by_cases he : p.2 = t
    ·simp only [he, if_true, Option.some.injEq] at hM; subst hM; exact ⟨rfl, rfl⟩
    ·simp [he] at hM
 | k x =>
  intro t L ht hL hl
  rw [ST.ty, ZT]
  cases t with
  | k y =>
   show ∃ s s', (if (false || !(x.toList == y.toList)) = true then _ else _) = _ ∧ _
   rw [ZiA, ST.mat, Bool.false_or]
   by_cases h : x = y
   ·subst h
    rw [decide_eq_true rfl, Bool.not_true, ifF]
    rw [ZS]
    exact ⟨L.map toB, L.map toB, by simp [ST.ty]; exact fun h => absurd (show 0 < 0 from h) (by decide), fun M hM => by simp at hM; subst hM; exact ⟨rfl, rfl⟩⟩
   ·rw [decide_eq_false h, Bool.not_false, ifT]
    exact ⟨[], [], by simp [h], fun M hM => by simp [h] at hM⟩
  | v y => exact ⟨_, _, rfl, fun M hM => by rw [ST.mat] at hM; cases hM⟩
  | a g y => exact ⟨_, _, rfl, fun M hM => by rw [ST.mat] at hM; cases hM⟩
 | a f x ihf ihx =>
  intro t L ht hL hl
  rw [ST.ty, ZT]
  cases t with
  | v y => exact ⟨_, _, rfl, fun M hM => by rw [ST.mat] at hM; cases hM⟩
  | k y => exact ⟨_, _, rfl, fun M hM => by rw [ST.mat] at hM; cases hM⟩
  | a g y =>
   obtain ⟨hg, hy⟩ := ZlL ht
   simp only [ST.nod] at hl
   show ∃ s s', (if (false || !((ByteArray.mk #[]).toList == (ByteArray.mk #[]).toList)) = true then _ else _) = _ ∧ _
   rw [ZiA, decide_eq_true rfl, Bool.false_or, Bool.not_true, ifF, ZS]
   show ∃ s s', (some f.ty >>= fun x82 => some g.ty >>= fun x83 => ZT _ x82 x83 >>= _) = _ ∧ _
   rw [Zm, Zm]
   obtain ⟨s1, s1', h1, h2⟩ := ihf g L hg hL (by omega)
   rw [h1, Zm, ST.mat]
   show ∃ s s', (some () >>= _) = _ ∧ _
   rw [Zm]
   cases hm : f.mat g L with
   | none =>
    show ∃ s s', ZS false (0 + 1) _ _ s1' = _ ∧ _
    rw [ZS, Bool.and_false, ifF]
    exact ⟨_, _, rfl, fun M hM => by cases hM⟩
   | some N =>
    obtain ⟨rfl, rfl⟩ := h2 N hm
    show ∃ s s', ZS true (0 + 1) _ _ (N.map toB) = _ ∧ _
    rw [ZS]
    show ∃ s s', (some x.ty >>= fun x82 => some y.ty >>= fun x83 => ZT _ x82 x83 >>= _) = _ ∧ _
    rw [Zm, Zm]
    have hn := ZoZ f g L N hm
    obtain ⟨s3, s3', h3, h4⟩ := ihx y N hy (Zp5 f g L N hg hL hm) (by omega)
    rw [h3, Zm]
    show ∃ s s', (some () >>= _) = some (s, (x.mat y N).isSome, s') ∧ ∀ M, x.mat y N = some M → _
    rw [Zm]
    show ∃ s s', ZS (x.mat y N).isSome (0 + 1 + 1) _ _ s3' = _ ∧ _
    rw [ZS]
    show ∃ s s', some (s3', (x.mat y N).isSome, s3') = _ ∧ _
    exact ⟨_, _, rfl, fun M hM => ⟨(h4 M hM).2, (h4 M hM).2⟩⟩
theorem ZBG (p t : ST) (ht : t.good) (hl : p.nod ≤ 1000000000) : ∃ s, ZbH p.ty t.ty = some (s, (p.mat t []).isSome) ∧ ∀ M, p.mat t [] = some M → s = M.map toB := by
 have nl : Znr [] := fun p hp => absurd hp List.not_mem_nil
 cases p with
 | v x =>
  rw [ST.ty, ZbH]
  show ∃ s, (ZbG (([] : SB).map toB) x >>= _) = _ ∧ _
  rw [ZuT, Zm]
  show ∃ s, (Zac ((0 + 1) * 88 ≤ 140737488355328) >>= _) = _ ∧ _
  rw [gp 0 1 (by decide) 0 rfl, Zm]
  exact ⟨_, rfl, fun M hM => by injection hM with hM; subst hM; rfl⟩
 | k x =>
  rw [ST.ty, ZbH]
  cases t with
  | k y =>
   show ∃ s, (if (false || !(x.toList == y.toList)) = true then _ else _) = _ ∧ _
   rw [ZiA, ST.mat, Bool.false_or]
   by_cases h : x = y
   ·subst h
    rw [decide_eq_true rfl, Bool.not_true, ifF]
    rw [ZZ]
    exact ⟨[], by simp [ST.ty]; exact fun h => absurd (show 0 < 0 from h) (by decide), fun M hM => by simp at hM; subst hM; rfl⟩
   ·rw [decide_eq_false h, Bool.not_false, ifT]
    exact ⟨[], by simp [h], fun M hM => by simp [h] at hM⟩
  | v y => exact ⟨_, rfl, fun M hM => by rw [ST.mat] at hM; cases hM⟩
  | a g y => exact ⟨_, rfl, fun M hM => by rw [ST.mat] at hM; cases hM⟩
 | a f x =>
  rw [ST.ty, ZbH]
  cases t with
  | v y => exact ⟨_, rfl, fun M hM => by rw [ST.mat] at hM; cases hM⟩
  | k y => exact ⟨_, rfl, fun M hM => by rw [ST.mat] at hM; cases hM⟩
  | a g y =>
   obtain ⟨hg, hy⟩ := ZlL ht
   simp only [ST.nod] at hl
   show ∃ s, (if (false || !((ByteArray.mk #[]).toList == (ByteArray.mk #[]).toList)) = true then _ else _) = _ ∧ _
   rw [ZiA, decide_eq_true rfl, Bool.false_or, Bool.not_true, ifF, ZZ]
   show ∃ s, (some f.ty >>= fun x82 => some g.ty >>= fun x83 => ZT (([] : SB).map toB) x82 x83 >>= _) = _ ∧ _
   rw [Zm, Zm]
   obtain ⟨s1, s1', h1, h2⟩ := ZzX f g [] hg nl (by simp; omega)
   rw [h1, Zm, ST.mat]
   show ∃ s, (some () >>= _) = _ ∧ _
   rw [Zm]
   cases hm : f.mat g [] with
   | none =>
    show ∃ s, ZZ false (0 + 1) _ _ s1' = _ ∧ _
    rw [ZZ, Bool.and_false, ifF]
    exact ⟨_, rfl, fun M hM => by cases hM⟩
   | some N =>
    obtain ⟨rfl, rfl⟩ := h2 N hm
    show ∃ s, ZZ true (0 + 1) _ _ (N.map toB) = _ ∧ _
    rw [ZZ]
    show ∃ s, (some x.ty >>= fun x82 => some y.ty >>= fun x83 => ZT _ x82 x83 >>= _) = _ ∧ _
    rw [Zm, Zm]
    have hn := ZoZ f g [] N hm
    simp only [List.length_nil] at hn
    obtain ⟨s3, s3', h3, h4⟩ := ZzX x y N hy (Zp5 f g [] N hg nl hm) (by omega)
    rw [h3, Zm]
    show ∃ s, (some () >>= _) = some (s, (x.mat y N).isSome) ∧ ∀ M, x.mat y N = some M → _
    rw [Zm]
    show ∃ s, ZZ (x.mat y N).isSome (0 + 1 + 1) _ _ s3' = _ ∧ _
    rw [ZZ]
    show ∃ s, some (s3', (x.mat y N).isSome) = _ ∧ _
    exact ⟨_, rfl, fun M hM => (h4 M hM).2⟩

theorem Zs2 (l : List Zf) : ∀ (L A : SB) (k : Nat), A.length + L.length ≤ 1000000000 → Zb2 (A.map toB) l k (L.map toB) = some ((A ++ L).map toB)
 | [], A, k, _ => by rw [List.map_nil, Zb2, List.append_nil]
 | p :: L, A, k, h => by
  rw [List.length_cons] at h
  have ih := Zs2 l L (A ++ [p]) (k + 1) (by simp; omega)
  rw [List.map_cons, Zb2]
  show (Zbj p.2.ty >>= _) = _
  rw [Ztm, Zm, Zdb _ (by simp; omega)]
  have e : A.map toB ++ [Zf.mk (toB p).fName p.2.ty] = (A ++ [p]).map toB := by simp [toB]
  rw [e, ih, List.append_assoc]; rfl
theorem Zwz (L : SB) (h : L.length ≤ 1000000000) : ZdF (L.map toB) = some (L.map toB) := by
 have := Zs2 (L.map toB) L [] 0 (by simpa using h)
 rw [ZdF]; exact this
def Zsv (s t : ST) : List Zf × Int := match s.mat t [] with | some M => (M.map toB, 0) | none => ([], 22)
theorem ZDL : Znr [] := fun p hp => absurd hp List.not_mem_nil
theorem Zvr (s t : ST) (hs : s.good) (ht : t.good) (hn : s.nod ≤ 100000000) (hv : s.ty.vol ≤ 1000000000) (hw : t.ty.vol ≤ 1000000000) : Zdo s.ty t.ty = some (Zsv s t) := by
 rw [Zdo, Zmc _ hv, Zhh hs, Zm]
 show ((Za8 t.ty >>= _) >>= _) = _
 rw [Zmc _ hw, Zhh ht, Zm, Zm]
 show (Zaa ⟨([] : SB).map toB, atL 0 []⟩ s.ty t.ty >>= _) = _
 obtain ⟨m, h1, h2⟩ := ZCT s t [] ht ZDL (by simp; omega)
 rw [h1, Zm, Zsv]
 cases hm : s.mat t [] with
 | none => rfl
 | some M =>
  rw [h2 M hm]
  show (ZdF (M.map toB) >>= _) = _
  have := ZoZ s t [] M hm
  rw [Zwz M (by simp at this; omega)]
  rfl
theorem ZvK (s t : ST) (hs : s.good) (ht : t.good) (hn : s.nod ≤ 100000000) (hv : s.ty.vol ≤ 1000000000) (hw : t.ty.vol ≤ 1000000000) : ZbI s.ty t.ty = some (Zsv s t) := by
 rw [ZbI, ZtO _ hv, Zhh hs, Zm]
 show ((Zal t.ty >>= _) >>= _) = _
 rw [ZtO _ hw, Zhh ht, Zm, Zm]
 show (ZbH s.ty t.ty >>= _) = _
 obtain ⟨l, h1, h2⟩ := ZBG s t ht (by omega)
 rw [h1, Zm, Zsv]
 cases hm : s.mat t [] with
 | none => rfl
 | some M =>
  rw [h2 M hm]
  rfl
theorem Zpf (a b : Za) (hv : a.vol ≤ 1000000000) (hw : b.vol ≤ 1000000000) (h : (ZgE a && ZgE b) = false) : Zdo a b = some ([], 1) := by
 rw [Zdo, Zmc _ hv, Zm]
 cases ha : ZgE a with
 | false => rfl
 | true =>
  rw [ha, Bool.true_and] at h
  show ((Za8 b >>= _) >>= _) = _
  rw [Zmc _ hw, h]; rfl
theorem Zpw (a b : Za) (hv : a.vol ≤ 1000000000) (hw : b.vol ≤ 1000000000) (h : (ZgE a && ZgE b) = false) : ZbI a b = some ([], 1) := by
 rw [ZbI, ZtO _ hv, Zm]
 cases ha : ZgE a with
 | false => rfl
 | true =>
  rw [ha, Bool.true_and] at h
  show ((Zal b >>= _) >>= _) = _
  rw [ZtO _ hw, h]; rfl

abbrev BB := List (ByteArray × ByteArray)
structure Tie (to fr : BB) (L M : SB) : Prop where
 tl : ∀ x, lk x L = (Zde x to).map ST.v
 tm : ∀ y, lk y M = (Zde y fr).map ST.v
 inv : ∀ x y, Zde x to = some y ↔ Zde y fr = some x
 vl : ∀ p ∈ L, p.2.isv = true
theorem ZDo : Tie [] [] [] [] := ⟨fun _ => rfl, fun _ => rfl, fun x y => ⟨fun h => (by cases h), fun h => (by cases h)⟩, fun p hp => absurd hp List.not_mem_nil⟩
theorem ZsO (m : BB) (z k : ByteArray) : Zdf m z k = some (match Zde k m with | some v => (v, true) | none => (z, false)) := by
 unfold Zdf; cases Zde k m <;> rfl
theorem ZzE {to fr : BB} {L M : SB} (h : Tie to fr L M) {x y : ByteArray} (hx : Zde x to = none) (hy : Zde y fr = none) :
  Tie (Zfm to x y) (Zfm fr y x) (L ++ [(x, .v y)]) (M ++ [(y, .v x)]) where
 tl z := by
  rw [Zpp, h.tl, Zg0]
  by_cases hz : z = x
  ·subst hz; rw [hx, if_pos rfl]; show lk z [(z, .v y)] = _; rw [Zqv, if_pos rfl]; rfl
  ·rw [if_neg hz]
   cases Zde z to with
   | some u => rfl
   | none => show lk z [(x, .v y)] = _; rw [Zqv, if_neg (fun e => hz e.symm)]; rfl
 tm z := by
  rw [Zpp, h.tm, Zg0]
  by_cases hz : z = y
  ·subst hz; rw [hy, if_pos rfl]; show lk z [(z, .v x)] = _; rw [Zqv, if_pos rfl]; rfl
  ·rw [if_neg hz]
   cases Zde z fr with
   | some u => rfl
   | none => show lk z [(y, .v x)] = _; rw [Zqv, if_neg (fun e => hz e.symm)]; rfl
 inv a b := by
  rw [Zg0, Zg0]
  by_cases ha : a = x
  ·subst ha
   rw [if_pos rfl]
   by_cases hb : b = y
   ·subst hb; rw [if_pos rfl]; simp
   ·rw [if_neg hb]
    constructor
    ·intro h1; injection h1 with h1; exact absurd h1.symm hb
    ·intro h1; have := (h.inv a b).2 h1; rw [hx] at this; cases this
  ·rw [if_neg ha]
   by_cases hb : b = y
   ·subst hb
    rw [if_pos rfl]
    constructor
    ·intro h1; have := (h.inv a b).1 h1; rw [hy] at this; cases this
    ·intro h1; injection h1 with h1; exact absurd h1.symm ha
   ·rw [if_neg hb]; exact h.inv a b
 vl p hp := by
  rcases List.mem_append.1 hp with hp | hp
  ·exact h.vl p hp
  ·rw [List.mem_singleton] at hp; subst hp; rfl
theorem ZzL (s : ST) : ∀ (t : ST) (to fr : BB) (L M : SB), Tie to fr L M →
  ∃ b to' fr', Zbs to fr s.ty t.ty = some (b, to', fr') ∧ (b = true → ∃ L' M', s.mat t L = some L' ∧ t.mat s M = some M' ∧ Tie to' fr' L' M') ∧ (b = false → s.mat t L = none ∨ t.mat s M = none) := by
 induction s with
 | v x =>
  intro t to fr L M hT
  rw [ST.ty, Zbs]
  cases t with
  | v y =>
   show ∃ b to' fr', (Zdf to (ByteArray.mk #[]) x >>= fun r8 => Zdf fr (ByteArray.mk #[]) y >>= _) = _ ∧ _
   rw [ZsO, ZsO, Zm, Zm, ST.mat, ST.mat, hT.tl, hT.tm]
   cases hx : Zde x to with
   | none =>
    cases hy : Zde y fr with
    | none => exact ⟨true, _, _, rfl, fun _ => ⟨_, _, rfl, rfl, ZzE hT hx hy⟩, fun h => by cases h⟩
    | some x' =>
     refine ⟨false, _, _, rfl, fun h => (by cases h), fun _ => .inr ?_⟩
     have hne : ¬ (ST.v x' = ST.v x) := fun e => by
      injection e with e; subst e
      have := (hT.inv x' y).2 hy
      rw [hx] at this; cases this
     show (if ST.v x' = ST.v x then some M else none) = none
     rw [if_neg hne]
   | some y' =>
    cases hy : Zde y fr with
    | none =>
     refine ⟨false, _, _, rfl, fun h => (by cases h), fun _ => .inl ?_⟩
     have hne : ¬ (ST.v y' = ST.v y) := fun e => by
      injection e with e; subst e
      have := (hT.inv x y').1 hx
      rw [hy] at this; cases this
     show (if ST.v y' = ST.v y then some L else none) = none
     rw [if_neg hne]
    | some x' =>
     refine ⟨(decide (y' = y) && decide (x' = x)), to, fr, ?_, fun h => ?_, fun h => ?_⟩
     ·show some (((true && true) && (y'.toList == y.toList)) && (x'.toList == x.toList), to, fr) = _
      rw [ZiA, ZiA]; simp
     ·simp only [Bool.and_eq_true, decide_eq_true_eq] at h
      obtain ⟨rfl, rfl⟩ := h
      exact ⟨L, M, by simp, by simp, hT⟩
     ·by_cases h1 : y' = y
      ·have h2 : ¬ x' = x := fun e => by simp [h1, e] at h
       exact .inr (by simp [h2])
      ·exact .inl (by simp [h1])
  | k y => exact ⟨false, _, _, rfl, fun h => (by cases h), fun _ => .inr rfl⟩
  | a g y => exact ⟨false, _, _, rfl, fun h => (by cases h), fun _ => .inr rfl⟩
 | k x =>
  intro t to fr L M hT
  rw [ST.ty, Zbs]
  cases t with
  | v y => exact ⟨false, _, _, rfl, fun h => (by cases h), fun _ => .inl rfl⟩
  | a g y => exact ⟨false, _, _, rfl, fun h => (by cases h), fun _ => .inl rfl⟩
  | k y =>
   show ∃ b to' fr', (if ((false || !(x.toList == y.toList)) || false) = true then _ else _) = _ ∧ _
   rw [ZiA, Bool.false_or, Bool.or_false, ST.mat, ST.mat]
   by_cases h : x = y
   ·subst h
    rw [decide_eq_true rfl, Bool.not_true, ifF]
    show ∃ b to' fr', Zav _ 0 _ to fr [] = _ ∧ _
    rw [Zav]
    exact ⟨true, to, fr, rfl, fun _ => ⟨L, M, by simp, by simp, hT⟩, fun h => by cases h⟩
   ·rw [decide_eq_false h, Bool.not_false, ifT]
    exact ⟨false, to, fr, rfl, fun h => (by cases h), fun _ => .inl (by simp [h])⟩
 | a f x ihf ihx =>
  intro t to fr L M hT
  rw [ST.ty, Zbs]
  cases t with
  | v y => exact ⟨false, _, _, rfl, fun h => (by cases h), fun _ => .inl rfl⟩
  | k y => exact ⟨false, _, _, rfl, fun h => (by cases h), fun _ => .inl rfl⟩
  | a g y =>
   show ∃ b to' fr', (if ((false || !((ByteArray.mk #[]).toList == (ByteArray.mk #[]).toList)) || false) = true then _ else _) = _ ∧ _
   rw [ZiA, decide_eq_true rfl, Bool.false_or, Bool.or_false, Bool.not_true, ifF]
   show ∃ b to' fr', Zav _ 0 _ to fr [f.ty, x.ty] = _ ∧ _
   rw [Zav]
   show ∃ b to' fr', (some g.ty >>= _) = _ ∧ _
   rw [Zm, ST.mat, ST.mat]
   obtain ⟨b1, to1, fr1, h1, h2, h3⟩ := ihf g to fr L M hT
   rw [h1, Zm]
   cases b1 with
   | false =>
    refine ⟨false, _, _, rfl, fun h => (by cases h), fun _ => ?_⟩
    rcases h3 rfl with h | h
    ·exact .inl (by rw [h])
    ·exact .inr (by rw [h])
   | true =>
    obtain ⟨L1, M1, e1, e2, hT1⟩ := h2 rfl
    rw [e1, e2]
    show ∃ b to' fr', Zav _ (0 + 1) _ to1 fr1 [x.ty] = _ ∧ _
    rw [Zav]
    show ∃ b to' fr', (some y.ty >>= _) = _ ∧ _
    rw [Zm]
    obtain ⟨b2, to2, fr2, h4, h5, h6⟩ := ihx y to1 fr1 L1 M1 hT1
    rw [h4, Zm]
    cases b2 with
    | false => exact ⟨false, _, _, rfl, fun h => (by cases h), fun _ => h6 rfl⟩
    | true =>
     show ∃ b to' fr', Zav _ (0 + 1 + 1) _ to2 fr2 [] = _ ∧ _
     rw [Zav]
     exact ⟨true, _, _, rfl, fun _ => h5 rfl, fun h => by cases h⟩
def ZkG (s t : ST) : Bool := (s.mat t []).isSome && (t.mat s []).isSome
theorem ZwO (s t : ST) : ZkG s t = ZkG t s := by unfold ZkG; rw [Bool.and_comm]
theorem ZxD (s t : ST) (hs : s.good) (ht : t.good) (hv : s.ty.vol ≤ 1000000000) (hw : t.ty.vol ≤ 1000000000) : Zbf s.ty t.ty = some (ZkG s t) := by
 rw [Zbf, Zmc _ hv, Zhh hs, Zm]
 show ((Za8 t.ty >>= _) >>= _) = _
 rw [Zmc _ hw, Zhh ht, Zm, Zm]
 show ((Zbs [] [] s.ty t.ty >>= _) >>= _) = _
 obtain ⟨b, to, fr, h1, h2, h3⟩ := ZzL s t [] [] [] [] ZDo
 rw [h1, Zm, Zm, ZkG]
 cases b with
 | true =>
  obtain ⟨L, M, e1, e2, _⟩ := h2 rfl
  rw [e1, e2]; rfl
 | false =>
  rcases h3 rfl with h | h
  ·rw [h]; rfl
  ·rw [h]; simp
theorem ZsP (a b : Za) (hv : a.vol ≤ 1000000000) (hw : b.vol ≤ 1000000000) (h : (ZgE a && ZgE b) = false) : Zbf a b = some false := by
 rw [Zbf, Zmc _ hv, Zm]
 cases ha : ZgE a with
 | false => rfl
 | true =>
  rw [ha, Bool.true_and] at h
  show ((Za8 b >>= _) >>= _) = _
  rw [Zmc _ hw, h]; rfl
theorem Zwp {s t : ST} {M : SB} (h : ZkG s t = true) (hm : s.mat t [] = some M) : ∀ p ∈ M, p.2.isv = true := by
 obtain ⟨b, to, fr, h1, h2, h3⟩ := ZzL s t [] [] [] [] ZDo
 unfold ZkG at h
 rw [Bool.and_eq_true] at h
 cases b with
 | false =>
  rcases h3 rfl with h4 | h4
  ·rw [h4] at h; cases h.1
  ·rw [h4] at h; cases h.2
 | true =>
  obtain ⟨L, N, e1, e2, hT⟩ := h2 rfl
  rw [hm] at e1
  injection e1 with e1
  subst e1
  exact hT.vl
theorem ZBw (t : ST) : (t.ty.fOp != 1) = !t.isv := by cases t <;> rfl
theorem Zsg (r1 r2 : List Zf × Int) : ∀ (M : SB) (k : Nat), Zaj r1 r2 k (M.map toB) = some ((M.all fun p => p.2.isv) && ((r1.2 == 0) && (r2.2 == 0)))
 | [], k => by rw [List.map_nil, Zaj]; rfl
 | p :: M, k => by
  rw [List.map_cons, Zaj]
  show (if (p.2.ty.fOp != 1) = true then _ else _) = _
  rw [ZBw, List.all_cons]
  cases hp : p.2.isv with
  | false => rfl
  | true =>
   show Zaj r1 r2 (k + 1) (M.map toB) = _
   rw [Zsg r1 r2 M (k + 1), Bool.true_and]
theorem Zo5 (s t : ST) : ((Zsv s t).2 == 0) = (s.mat t []).isSome := by unfold Zsv; cases s.mat t [] <;> rfl
theorem ZDj (s t : ST) (hs : s.good) (ht : t.good) (hn : s.nod ≤ 100000000) (hm : t.nod ≤ 100000000) (hv : s.ty.vol ≤ 1000000000) (hw : t.ty.vol ≤ 1000000000) : Zbq s.ty t.ty = some (ZkG s t) := by
 rw [Zbq, ZvK s t hs ht hn hv hw, Zm, ZvK t s ht hs hm hw hv, Zm]
 have key : ∃ N : SB, (Zsv s t).1 = N.map toB ∧ (ZkG s t = true → ∀ p ∈ N, p.2.isv = true) := by
  cases h : s.mat t [] with
  | none => exact ⟨[], by rw [Zsv, h]; rfl, fun _ p hp => absurd hp List.not_mem_nil⟩
  | some N => exact ⟨N, by rw [Zsv, h], fun hv => Zwp hv h⟩
 obtain ⟨N, h1, h2⟩ := key
 rw [h1, Zsg, Zo5, Zo5]
 show some ((N.all fun p => p.2.isv) && ZkG s t) = _
 cases hb : ZkG s t with
 | false => rw [Bool.and_false]
 | true =>
  have : (N.all fun p => p.2.isv) = true := List.all_eq_true.2 (h2 hb)
  rw [this]; rfl
theorem ZyO (a b : Za) (hv : a.vol ≤ 1000000000) (hw : b.vol ≤ 1000000000) (h : (ZgE a && ZgE b) = false) : Zbq a b = some false := by
 rw [Zbq, Zpw a b hv hw h, Zm, Zpw b a hw hv (by rw [Bool.and_comm]; exact h), Zm]
 exact Zsg ([], 1) ([], 1) [] 0
theorem ZwZ (s : ST) : ∀ L : SB, (∀ x u, lk x L = some u → u = .v x) → ∃ M, s.mat s L = some M ∧ ∀ x u, lk x M = some u → u = .v x := by
 induction s with
 | v x =>
  intro L hL
  rw [ST.mat]
  cases h : lk x L with
  | some u => have := hL x u h; subst this; exact ⟨L, by simp, hL⟩
  | none =>
   refine ⟨_, rfl, fun y u hy => ?_⟩
   rw [Zpp] at hy
   cases hy2 : lk y L with
   | some w => rw [hy2] at hy; injection hy with hy; subst hy; exact hL y w hy2
   | none =>
    rw [hy2] at hy
    replace hy : lk y [(x, .v x)] = some u := hy
    rw [Zqv] at hy
    by_cases he : x = y
    ·subst he; rw [if_pos rfl] at hy; injection hy with hy; exact hy.symm
    ·rw [if_neg he] at hy; cases hy
 | k x => intro L hL; rw [ST.mat]; exact ⟨L, by simp, hL⟩
 | a f x ihf ihx =>
  intro L hL
  rw [ST.mat]
  obtain ⟨M, h1, h2⟩ := ihf L hL
  rw [h1]
  exact ihx M h2
theorem Zv6 (s : ST) : ZkG s s = true := by
 obtain ⟨M, h, _⟩ := ZwZ s [] (fun x u h => by cases h)
 unfold ZkG; rw [h]; rfl
theorem ZsD (a b : Za) (h : a.vol + b.vol ≤ 1048576) : Zbc a b = some true := by
 obtain ⟨sm, hsm⟩ := Zyd [a, b] (fun t ht => by simp at ht; rcases ht with rfl | rfl <;> omega)
 unfold Zbc
 rw [hsm, Zm, ZD2]
 cases sm with
 | false => rfl
 | true =>
  rw [Bool.not_true, ifF]
  have self : (Zal a >>= fun r14 => (if (!r14) = true then some true else Zbf a a >>= fun r15 => some r15) >>= fun c16 => some c16) = some true := by
   rw [ZtO a (by omega), Zm]
   cases ha : ZgE a with
   | false => rfl
   | true =>
    obtain ⟨s, rfl, hs⟩ := ZuP (by omega) ha
    rw [Bool.not_true, ifF, ZxD s s hs hs (by omega) (by omega), Zv6]; rfl
  cases hb : ZgE a && ZgE b with
  | false =>
   have hb' : (ZgE b && ZgE a) = false := by rw [Bool.and_comm]; exact hb
   rw [ZsP a b (by omega) (by omega) hb, Zm, Zpf a b (by omega) (by omega) hb, Zm, Zpf b a (by omega) (by omega) hb', Zm, ZyO a b (by omega) (by omega) hb, Zm]
   show ((Zbf b a >>= _) >>= _) = _
   rw [ZsP b a (by omega) (by omega) hb', Zm, Zm]
   show ((Zal a >>= fun r14 => (if (!r14) = true then some true else Zbf a a >>= fun r15 => some r15) >>= fun c16 => some c16) >>= _) = _
   rw [self]; rfl
  | true =>
   simp only [Bool.and_eq_true] at hb
   obtain ⟨s, rfl, hs⟩ := ZuP (by omega) hb.1
   obtain ⟨t, rfl, ht⟩ := ZuP (by omega) hb.2
   have hn : s.nod ≤ 20000 := (Zdv.1 hs.2).1
   have hm : t.nod ≤ 20000 := (Zdv.1 ht.2).1
   rw [ZxD s t hs ht (by omega) (by omega), Zm, Zvr s t hs ht (by omega) (by omega) (by omega), Zm, Zvr t s ht hs (by omega) (by omega) (by omega), Zm, ZDj s t hs ht (by omega) (by omega) (by omega) (by omega), Zm]
   have e1 : (ZkG s t == ZkG s t) = true := by simp
   rw [e1, ifT, ZxD t s ht hs (by omega) (by omega), Zm, ZwO t s, e1, Zm, Zo5, Zo5]
   have e2 : (true && (ZkG s t == ((s.mat t []).isSome && (t.mat s []).isSome))) = true := by
    show (true && (ZkG s t == ZkG s t)) = true
    rw [e1]; rfl
   rw [e2, ifT]
   show ((Zal s.ty >>= fun r14 => (if (!r14) = true then some true else Zbf s.ty s.ty >>= fun r15 => some r15) >>= fun c16 => some c16) >>= _) = _
   rw [self]; rfl

theorem Zlz {t : Nat} {k : TK} {es : List E} (hk : (tab.ti t).k = k) (h1 : ∀ fs, k ≠ .struct fs) (h2 : ∀ e, k ≠ .slice e) : (t = 25 → ∃ v : Zi, es = v.cells) ∧ (t = 23 → ∃ l : List Zi, es = [.sl (l.map Zi.cells)]) :=
 ⟨fun ht => by subst ht; exact absurd hk.symm (h1 _), fun ht => by subst ht; exact absurd hk.symm (h2 _)⟩
theorem Zx6 {t : Nat} {es : List E} (h : Sh tab t es) : (t = 25 → ∃ v : Zi, es = v.cells) ∧ (t = 23 → ∃ l : List Zi, es = [.sl (l.map Zi.cells)]) := by
 induction h with
 | bool t b h => exact Zlz h (by simp) (by simp)
 | int t k n h hn => exact Zlz h (by simp) (by simp)
 | string t s h hs => exact Zlz h (by simp) (by simp)
 | array t n e parts h hl hf => exact Zlz h (by simp) (by simp)
 | slice t e rows h hl hr ih =>
  refine ⟨fun ht => (by subst ht; cases h), fun ht => ?_⟩
  subst ht
  have he : e = 25 := by injection h with h; exact h.symm
  subst he
  obtain ⟨l, rfl⟩ := ZpB (f := Zi.cells) rows fun row hm => by
   obtain ⟨i, hi, rfl⟩ := List.mem_iff_getElem.1 hm
   exact (ih i _ (List.getElem?_eq_getElem hi)).1 rfl
  exact ⟨l, rfl⟩
 | struct t fs parts h hl hf ih =>
  refine ⟨fun ht => ?_, fun ht => (by subst ht; cases h)⟩
  subst ht
  have he : fs = [(23, 0)] := by injection h with h; exact h.symm
  subst he
  obtain ⟨a, rfl⟩ := ZFC hl
  obtain ⟨l, rfl⟩ := (ih 0 23 0 a rfl rfl).2 rfl
  exact ⟨.mk l, by rw [Zi.cells_eq]; rfl⟩
theorem Zzz {es : List E} (h : Sh tab 25 es) : ∃ v : Zi, es = v.cells := (Zx6 h).1 rfl
theorem ZlD {t : Nat} {k : TK} {es : List E} (hk : (tab.ti t).k = k) (h1 : ∀ fs, k ≠ .struct fs) (h2 : ∀ e, k ≠ .slice e) : (t = 28 → ∃ v : Za, es = v.cells) ∧ (t = 26 → ∃ l : List Za, es = [.sl (l.map Za.cells)]) :=
 ⟨fun ht => by subst ht; exact absurd hk.symm (h1 _), fun ht => by subst ht; exact absurd hk.symm (h2 _)⟩
theorem Zxs {t : Nat} {es : List E} (h : Sh tab t es) : (t = 28 → ∃ v : Za, es = v.cells) ∧ (t = 26 → ∃ l : List Za, es = [.sl (l.map Za.cells)]) := by
 induction h with
 | bool t b h => exact ZlD h (by simp) (by simp)
 | int t k n h hn => exact ZlD h (by simp) (by simp)
 | string t s h hs => exact ZlD h (by simp) (by simp)
 | array t n e parts h hl hf => exact ZlD h (by simp) (by simp)
 | slice t e rows h hl hr ih =>
  refine ⟨fun ht => (by subst ht; cases h), fun ht => ?_⟩
  subst ht
  have he : e = 28 := by injection h with h; exact h.symm
  subst he
  obtain ⟨l, rfl⟩ := ZpB (f := Za.cells) rows fun row hm => by
   obtain ⟨i, hi, rfl⟩ := List.mem_iff_getElem.1 hm
   exact (ih i _ (List.getElem?_eq_getElem hi)).1 rfl
  exact ⟨l, rfl⟩
 | struct t fs parts h hl hf ih =>
  refine ⟨fun ht => ?_, fun ht => (by subst ht; cases h)⟩
  subst ht
  have he : fs = [(22, 0), (9, 1), (25, 2), (26, 3)] := by injection h with h; exact h.symm
  subst he
  obtain ⟨a, b, c, d, rfl⟩ := ZEN hl
  obtain ⟨op, rfl, _⟩ := ZA4 (hf 0 22 0 a rfl rfl) (k := .i64) rfl
  obtain ⟨name, rfl, _⟩ := ZwA (hf 1 9 1 b rfl rfl) rfl
  obtain ⟨bd, rfl⟩ := Zzz (hf 2 25 2 c rfl rfl)
  obtain ⟨kids, rfl⟩ := (ih 3 26 3 d rfl rfl).2 rfl
  exact ⟨.mk op name bd kids, by rw [Za.cells_eq, Zi.cells_eq]; rfl⟩
theorem Zvb {es : List E} (h : Sh tab 28 es) : ∃ v : Za, es = v.cells := (Zxs h).1 rfl
theorem ZwL (k : Zi) : k.nod ≤ Zcp k.cells := by
 refine Zi.ind (M := fun k => k.nod ≤ Zcp k.cells) (fun v ih => ?_) k
 have key : ∀ l : List Zi, (∀ x ∈ l, x.nod ≤ Zcp x.cells) → Zi.nods l ≤ Zhr (l.map Zi.cells) := by
  intro l
  induction l with
  | nil => intro _; rw [Zi.nods]; exact Nat.zero_le _
  | cons x l ih2 =>
   intro h
   rw [ZfV, List.map_cons, Zhr]
   have h1 := h x (by simp)
   have h2 := ih2 fun y hy => h y (by simp [hy])
   omega
 have h1 := key _ ih
 rw [ZjB, Zi.cells_eq]
 simp only [Zcp, Zov]
 omega
theorem ZpP : ∀ l : List Zi, Zi.nods l ≤ Zhr (l.map Zi.cells)
 | [] => by rw [Zi.nods]; exact Nat.zero_le _
 | x :: l => by
  rw [ZfV, List.map_cons, Zhr]
  have h1 := ZwL x
  have h2 := ZpP l
  omega
theorem Zq3 (t : Za) : t.vol ≤ Zcp t.cells := by
 refine Za.ind (M := fun t => t.vol ≤ Zcp t.cells) (fun v ih => ?_) t
 have key : ∀ l : List Za, (∀ x ∈ l, x.vol ≤ Zcp x.cells) → Za.vols l ≤ Zhr (l.map Za.cells) := by
  intro l
  induction l with
  | nil => intro _; rw [Za.vols]; exact Nat.zero_le _
  | cons x l ih2 =>
   intro h
   rw [Zh2, List.map_cons, Zhr]
   have h1 := h x (by simp)
   have h2 := ih2 fun y hy => h y (by simp [hy])
   omega
 have h1 := key _ ih
 have h2 := ZpP v.fBound.fArgs
 rw [ZnJ, Za.cells_eq, ZjB]
 simp only [Zcp, Zov]
 omega

theorem Zrp {W : World} (h : Lib.TabIs Tryz.prog W "internal/strconv.uint64pow10" .u64 Lib.pow10Tab) : ∀ x ∈ Znb, old W x.1 x.2.1 ∧ x.2.2 (W.cell? ⟨x.1, x.2.1, none⟩) := by
 have hg : Tryz.prog.globalNamed "internal/strconv.uint64pow10" = some 3 := by kernel_rfl
 unfold Lib.TabIs World.var? at h
 rw [hg] at h
 simp only [Option.bind_some] at h
 split at h
 case h_2 => cases h
 rename_i cs t f hc
 injection h with h
 have hlt : 3 < W.heap.size := by
  rcases Nat.lt_or_ge 3 W.heap.size with h1 | h1
  ·exact h1
  ·rw [Array.getElem?_eq_none h1] at hc; cases hc
 have hcell : ∀ i, W.cell? ⟨3, i, none⟩ = (Lib.pow10Tab[i]?).map fun z => Value.int .u64 z := fun i => by
  have e0 : ((Lib.pow10Tab.map fun z => Value.int .u64 z).toArray)[i]? = (Lib.pow10Tab.map fun z => Value.int .u64 z)[i]? := List.getElem?_toArray
  simp only [World.cell?, hc, Option.isSome_none, Bool.false_eq_true, if_false, h]
  rw [e0, List.getElem?_map]
 intro x hx
 rcases List.mem_cons.1 hx with rfl | hx
 ·refine ⟨hlt, ?_⟩
  show Zqz (W.cell? ⟨3, 20, none⟩)
  rw [hcell]; rfl
 ·obtain ⟨i, hi, rfl⟩ := List.mem_map.1 hx
  have hi := List.mem_range.1 hi
  refine ⟨hlt, ?_⟩
  show Zsy i (W.cell? ⟨3, i, none⟩)
  rw [hcell, Lib.pow10Tab, List.getElem?_map, List.getElem?_range hi]
  rfl
theorem tab_third {W : World} {a b : String × DataW Unit} {r : List (String × DataW Unit)} (h : laidMet Tryz.prog (a :: b :: ("internal/strconv.uint64pow10", Lib.tabData .u64 Lib.pow10Tab) :: r) W) : Lib.TabIs Tryz.prog W "internal/strconv.uint64pow10" .u64 Lib.pow10Tab :=
 Lib.tabIs_of_head (g := 3) (t := 154) (e := 139) (n := 20) (by kernel_rfl) (by kernel_rfl) (by kernel_rfl) (by kernel_rfl) (by kernel_rfl) (by kernel_rfl) h.tail.tail
theorem globs0 {W : World} (h : Lib.TabIs Tryz.prog W "internal/strconv.uint64pow10" .u64 Lib.pow10Tab) (hr : Zdx = []) : ZiB Tryz.prog W (old W) := fun x hx => Zrp h x (by
 have hx : x ∈ Znb ++ Zdx := hx
 rwa [hr, List.append_nil] at hx)

theorem ZuQ {P : Program} {W : World} {sp : Nat → Bool} {fuel t : Nat} {ms : Array (String × TypeId)} {nm : String} {d : DataW Unit} {p : List MemPlace} (hi : P.underlying t = some (.interface ms)) :
  ∀ cs : List Value, DataW.trod (fun _ => ()) P W 0 sp false fuel t cs = some (.iface nm d, p) → ∃ u v, cs = [.iface u v] := by
 intro cs h
 cases fuel with
 | zero => simp [DataW.trod] at h
 | succ fuel =>
  unfold DataW.trod at h
  rw [hi] at h
  split at h <;> first | (cases h; done) | (simp at h; done) | exact ⟨_, _, rfl⟩ | simp_all
theorem Ztg {P : Program} {n nm : String} {d : DataW Unit} {r : List (String × DataW Unit)} {W : World} {g ti : Nat} {ms : Array (String × TypeId)} (h : laidMet P ((n, .iface nm d) :: r) W) (hg : P.globalNamed n = some g)
  (ht : (P.globals[g]?).map (·.type) = some ti) (hi : P.underlying ti = some (.interface ms)) : ∃ u v, W.cell? ⟨g, 0, none⟩ = some (.iface u v) := by
 obtain ⟨ps, ⟨g', t, cs, fuel, p, q, h1, h2, h3, h4, h5, h6⟩, hn, hc⟩ := h
 obtain rfl := Option.some.inj (hg.symm.trans h1)
 obtain rfl := Option.some.inj (ht.symm.trans h2)
 obtain ⟨u, v, hcs⟩ := ZuQ hi cs.toList h4
 have := World.var?_cell hg h3 0
 refine ⟨u, v, ?_⟩
 rw [this, ← Array.getElem?_toList, hcs]; rfl
theorem Zpe {W : World} {g : Nat} {v : Value} (h : W.cell? ⟨g, 0, none⟩ = some v) : g < W.heap.size := by
 unfold World.cell? at h
 rcases Nat.lt_or_ge g W.heap.size with h1 | h1
 ·exact h1
 ·simp only [Array.getElem?_eq_none h1] at h; cases h
theorem globs_full {W : World} {a b c : String × DataW Unit} {n1 n2 : String} {d1 d2 : DataW Unit} {r : List (String × DataW Unit)} (h : Lib.TabIs Tryz.prog W "internal/strconv.uint64pow10" .u64 Lib.pow10Tab) (hS : W.ShapedOpen Tryz.prog)
  (hL : laidMet Tryz.prog (a :: b :: c :: ("strconv.ErrRange", .iface n1 d1) :: ("strconv.ErrSyntax", .iface n2 d2) :: r) W) : ZiB Tryz.prog W (old W) := fun x hx => by
 have hx : x ∈ Znb ++ Zdx := hx
 rcases List.mem_append.1 hx with hx | hx
 ·exact Zrp h x hx
 ·unfold Zdx at hx
  simp only [List.mem_cons, List.not_mem_nil, or_false] at hx
  rcases hx with rfl | rfl | rfl
  ·obtain ⟨m, hm⟩ := cell_of_shapedOpen_int (zero := #[.int .i64 0]) (t := 3) hS (of_decide_eq_true (by kernel_rfl)) (by kernel_rfl) rfl (by kernel_rfl) (by kernel_rfl) Tryz.underlying3
   exact ⟨Zpe hm, m, hm⟩
  ·obtain ⟨u, v, he⟩ := Ztg (g := 1) (ti := 114) hL.tail.tail.tail.tail (by kernel_rfl) (by kernel_rfl) Tryz.underlying114
   exact ⟨Zpe he, _, he, .inr ⟨u, v, rfl⟩⟩
  ·obtain ⟨u, v, he⟩ := Ztg (g := 2) (ti := 114) hL.tail.tail.tail (by kernel_rfl) (by kernel_rfl) Tryz.underlying114
   exact ⟨Zpe he, _, he, .inr ⟨u, v, rfl⟩⟩

mutual
theorem Zo7 {H : Type} : ∀ d : DataW H, Rows.uptoBulk d = Zhg d
 | .lit l => by cases l <;> simp [Rows.uptoBulk, Zhg]
 | .nil => by simp [Rows.uptoBulk, Zhg]
 | .ptr d => by simp [Rows.uptoBulk, Zhg, Zo7 d]
 | .slice es sp => by simp [Rows.uptoBulk, Zhg, Zk3 es, Zk3 sp]
 | .agg ps => by simp [Rows.uptoBulk, Zhg, Zk3 ps]
 | .iface _ d => by simp [Rows.uptoBulk, Zhg, Zo7 d]
 | .map es => by simp [Rows.uptoBulk, Zhg, Zq9 es]
 | .held _ => by simp [Rows.uptoBulk, Zhg]
theorem Zk3 {H : Type} : ∀ l : List (DataW H), Rows.uptoBulkAll l = bulks l
 | [] => by simp [Rows.uptoBulkAll, bulks]
 | d :: l => by simp [Rows.uptoBulkAll, bulks, Zo7 d, Zk3 l]
theorem Zq9 {H : Type} : ∀ l : List (Lit × DataW H), Rows.uptoBulkEntries l = Zp6 l
 | [] => by simp [Rows.uptoBulkEntries, Zp6]
 | x :: l => by simp [Rows.uptoBulkEntries, Zp6, ZxB x, Zq9 l]
theorem ZxB {H : Type} : ∀ x : Lit × DataW H, Rows.uptoBulkEntry x = Zw0 x
 | (l, d) => by cases l <;> simp [Rows.uptoBulkEntry, Zw0, Zo7 d]
end
theorem upto_bulks {H : Type} {ds : List (DataW H)} (h : Rows.uptoSmall H ds = true) : bulks ds ≤ 1048576 := by
 have h := of_decide_eq_true h
 rwa [Zk3] at h

theorem unifyVariant_true {a b : List E} (ha : Sh tab 28 a) (hb : Sh tab 28 b) (hB : Zcp a + Zcp b ≤ 1048576) : CallsA Tryz.prog 9 [.agg a, .agg b] (fun r => r = .c none (.v (.bool true))) := by
 obtain ⟨a, rfl⟩ := Zvb ha
 obtain ⟨b, rfl⟩ := Zvb hb
 have h1 := Zq3 a
 have h2 := Zq3 b
 have h := Zh4 a b true (ZsD a b (by omega))
 unfold Zbc.M at h
 rw [Za.cells_eq, Za.cells_eq]
 exact Zk.mono h fun d b h => h.1

end Go.Proofs.YtgbglhbdjambbaaGreatDoor
