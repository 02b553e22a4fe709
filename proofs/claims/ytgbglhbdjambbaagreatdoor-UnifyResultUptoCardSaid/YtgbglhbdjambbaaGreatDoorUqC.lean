/- Part 3 of the proof: the abstract machine and its soundness. It holds for every input, without conditions. -/
import Derived.Scope
import Derived.IntWalk
import Derived.DataReads
import Derived.Carry
import Derived.ChangeOld
import Derived.Test.YtgbglhbdjambbaaGreatDoorUqA
import Derived.Test.YtgbglhbdjambbaaGreatDoorUqB
set_option linter.unusedVariables false
set_option linter.unusedSimpArgs false
namespace Go.Am
open Go.RowKit
theorem Zj.weak {P : Program} [Gl P] {f : FuncId} {args args' : List D} {bx bx' : ZbK} {K : D → ZbK → Prop} (r : Nat → Nat) (h : Zj P f args bx K) (hl : args'.length = args.length)
  (hw : WS r ⟨ZdY 0 args', bx'⟩ ⟨ZdY 0 args, bx⟩) : Zj P f args' bx' K :=
 ⟨h.1, fun w S0 M0 ZbZ ρ hv hr => h.2 w S0 M0 ZbZ ρ (hv.trans hl) (hr.weak hw)⟩
theorem Zj.weakRes {P : Program} [Gl P] {f : FuncId} {args : List D} {bx bx' : ZbK} {d' : D}
  (h : Zj P f args bx fun d b => ∃ r, WS r ⟨[(0, d)], b⟩ ⟨[(0, d')], bx'⟩) : Zj P f args bx fun d b => d = d' ∧ b = bx' :=
 ⟨h.1, fun w S0 M0 ZbZ ρ hv hr => (h.2 w S0 M0 ZbZ ρ hv hr).mono fun e w' ⟨v, d, b, St', ρ', h1, ⟨r, h2⟩, h4, h6⟩ =>
  ⟨v, d', bx', St', ρ', h1, ⟨rfl, rfl⟩, h4, h6.weak h2⟩⟩
structure AWP (P : Program) [Gl P] (nt : Nat) (c : Code) (Q : Exit → AS → Prop) (S : AS) : Prop where
 run : ∀ (w0 : World) (M0 : Nat → Prop) (S0 : Zar) (ρ0 : Nat → Nat) (a : Act) (w : World), ZbM P nt w0 M0 S0 ρ0 S a w → c.wp P (post P nt w0 M0 S0 ρ0 Q) a w
section
variable {P : Program} [Gl P] {nt : Nat} {c x y : Code} {Q Q' : Exit → AS → Prop} {S T : AS}
theorem AWP.weak (r : Nat → Nat) (hw : WS r S T) (h : AWP P nt c Q T) : AWP P nt c Q S :=
 ⟨fun w0 M0 S0 ρ0 a w ⟨h1, h2, St, ρ, h3, h4⟩ => h.run w0 M0 S0 ρ0 a w ⟨h1, h2, St, ρ, h3.weak hw, h4⟩⟩
theorem AWP.conv (hr : ∀ (w0 : World) (M0 : Nat → Prop) (S0 : Zar) (ρ0 : Nat → Nat) (a : Act) (w : World), ZbM P nt w0 M0 S0 ρ0 S a w → ZbM P nt w0 M0 S0 ρ0 T a w) (h : AWP P nt c Q T) : AWP P nt c Q S :=
 ⟨fun w0 M0 S0 ρ0 a w k => h.run w0 M0 S0 ρ0 a w (hr w0 M0 S0 ρ0 a w k)⟩
theorem AWP.thaw (i n k : Nat) {tk : Option (Nat × Nat)} {e : E} (hg : S.get i = .c tk e) (h : AWP P nt c Q (S.thaw i n k tk)) (hok : (Zn6 k tk e && Nat.blt i nt && Nat.blt n CAP && !ZhK n) = true := by rfl) : AWP P nt c Q S := by
 simp only [Bool.and_eq_true, Nat.blt_eq, Bool.not_eq_true'] at hok
 exact h.conv fun w0 M0 S0 ρ0 a w hr => hr.thaw hok.1.1.2 hg hok.1.1.1 hok.1.2 hok.2
theorem AWP.thawB (m j n k : Nat) {cs : List Cell} (hm : S.box m = some cs) (hj : cs[j]? = some (none, .nils)) (h : AWP P nt c Q (S.thawB m j n k cs)) (hok : (Zgs cs && !(Nat.beq m n) && Nat.blt n CAP && !ZhK n) = true := by rfl) : AWP P nt c Q S := by
 simp only [Bool.and_eq_true, Nat.blt_eq, Bool.not_eq_true'] at hok
 exact h.conv fun w0 M0 S0 ρ0 a w hr => hr.thawB hm (fun e => by subst e; have := hok.1.1.2; simp at this) hok.1.1.1 hj hok.1.2 hok.2
theorem AWP.trunc (n k l : Nat) {rows rows' : List (List E)} (hb : S.box n = some [(none, .ob (2 * k) rows)]) (hr : rows.take l = rows') (h : AWP P nt c Q (S.setBox n [(none, .ob (2 * k) rows')])) : AWP P nt c Q S := by
 subst hr
 exact h.conv fun w0 M0 S0 ρ0 a w hr => hr.trunc hb
theorem AWP.force (h : Zet S (AWP P nt c Q)) : AWP P nt c Q S := by rwa [ZfA] at h
theorem AWP.eqS (hS : S = T) (h : AWP P nt c Q T) : AWP P nt c Q S := hS ▸ h
theorem AWP.mono (h : AWP P nt c Q S) (hq : ∀ e T, Q e T → Q' e T) : AWP P nt c Q' S :=
 ⟨fun w0 M0 S0 ρ0 a w hr => wp_mono (h.run w0 M0 S0 ρ0 a w hr) fun e a' w' ⟨T, h1, h2⟩ => ⟨T, hq e T h1, h2⟩⟩
theorem AWP.seq (h : AWP P nt x (ZpZ (AWP P nt y Q) Q) S) : AWP P nt (.seq x y) Q S :=
 ⟨fun w0 M0 S0 ρ0 a w hr => wp_seq (wp_mono (h.run w0 M0 S0 ρ0 a w hr) fun e a' w' ⟨T, hq, h'⟩ => by
  cases e with
  | normal => exact hq.run _ _ _ _ _ _ h'
  | exit id => exact ⟨T, hq, h'⟩
  | goto l => exact ⟨T, hq, h'⟩
  | ret => exact ⟨T, hq, h'⟩
  | panic ch => exact ⟨T, hq, h'⟩
  | outgrown => exact ⟨T, hq, h'⟩)⟩
structure AWL (P : Program) [Gl P] (nt : Nat) (c : Code) (Q : Exit → AS → Prop) (S : AS) : Prop where
 run : ∀ (w0 : World) (M0 : Nat → Prop) (S0 : Zar) (ρ0 : Nat → Nat) (a : Act) (w : World), ZbM P nt w0 M0 S0 ρ0 S a w → ∀ (b : Frame) (k : List Item) (cs : List Frame),
  ∃ e a' w', post P nt w0 M0 S0 ρ0 Q e a' w' ∧ Arrives P (lone (b.at a (.code c :: .inLoop c :: k)) cs w) b k cs e a' w'
theorem AWL.weak (r : Nat → Nat) (hw : WS r S T) (h : AWL P nt c Q T) : AWL P nt c Q S :=
 ⟨fun w0 M0 S0 ρ0 a w ⟨h1, h2, St, ρ, h3, h4⟩ => h.run w0 M0 S0 ρ0 a w ⟨h1, h2, St, ρ, h3.weak hw, h4⟩⟩
theorem AWL.conv (hr : ∀ (w0 : World) (M0 : Nat → Prop) (S0 : Zar) (ρ0 : Nat → Nat) (a : Act) (w : World), ZbM P nt w0 M0 S0 ρ0 S a w → ZbM P nt w0 M0 S0 ρ0 T a w) (h : AWL P nt c Q T) : AWL P nt c Q S :=
 ⟨fun w0 M0 S0 ρ0 a w k => h.run w0 M0 S0 ρ0 a w (hr w0 M0 S0 ρ0 a w k)⟩
theorem AWL.thaw (i n k : Nat) {tk : Option (Nat × Nat)} {e : E} (hg : S.get i = .c tk e) (h : AWL P nt c Q (S.thaw i n k tk)) (hok : (Zn6 k tk e && Nat.blt i nt && Nat.blt n CAP && !ZhK n) = true := by rfl) : AWL P nt c Q S := by
 simp only [Bool.and_eq_true, Nat.blt_eq, Bool.not_eq_true'] at hok
 exact h.conv fun w0 M0 S0 ρ0 a w hr => hr.thaw hok.1.1.2 hg hok.1.1.1 hok.1.2 hok.2
theorem AWL.thawB (m j n k : Nat) {cs : List Cell} (hm : S.box m = some cs) (hj : cs[j]? = some (none, .nils)) (h : AWL P nt c Q (S.thawB m j n k cs)) (hok : (Zgs cs && !(Nat.beq m n) && Nat.blt n CAP && !ZhK n) = true := by rfl) : AWL P nt c Q S := by
 simp only [Bool.and_eq_true, Nat.blt_eq, Bool.not_eq_true'] at hok
 exact h.conv fun w0 M0 S0 ρ0 a w hr => hr.thawB hm (fun e => by subst e; have := hok.1.1.2; simp at this) hok.1.1.1 hj hok.1.2 hok.2
theorem AWL.force (h : Zet S (AWL P nt c Q)) : AWL P nt c Q S := by rwa [ZfA] at h
theorem AWP.loop (h : AWL P nt c Q S) : AWP P nt (.loop c) Q S := by
 refine ⟨fun w0 M0 S0 ρ0 a w hr b k cs => ?_⟩
 obtain ⟨e, a', w', hq, harr⟩ := h.run w0 M0 S0 ρ0 a w hr b k cs
 exact ⟨e, a', w', hq, .of_steps (.one step_loop) harr⟩
theorem AWL.step (h : AWP P nt c (ZpZ (AWL P nt c Q) Q) S) : AWL P nt c Q S := by
 refine ⟨fun w0 M0 S0 ρ0 a w hr b k cs => ?_⟩
 obtain ⟨e, a₁, w₁, ⟨S₁, hq, hr₁⟩, harr⟩ := h.run w0 M0 S0 ρ0 a w hr b (.inLoop c :: k) cs
 cases e with
 | normal =>
  obtain ⟨e₂, a₂, w₂, hq₂, harr₂⟩ := hq.run w0 M0 S0 ρ0 a₁ w₁ hr₁ b k cs
  exact ⟨e₂, a₂, w₂, hq₂, .of_steps (Steps.trans harr (.one step_inLoop)) harr₂⟩
 | exit id => exact ⟨_, a₁, w₁, ⟨S₁, hq, hr₁⟩, .pass (x := .inLoop c) rfl (fun _ _ => .inl (by simp)) harr⟩
 | goto l => exact ⟨_, a₁, w₁, ⟨S₁, hq, hr₁⟩, .pass (x := .inLoop c) rfl (fun _ _ => .inl (by simp)) harr⟩
 | ret => exact ⟨_, a₁, w₁, ⟨S₁, hq, hr₁⟩, .pass (x := .inLoop c) rfl (fun _ _ => .inl (by simp)) harr⟩
 | panic ch => exact ⟨_, a₁, w₁, ⟨S₁, hq, hr₁⟩, .pass (x := .inLoop c) rfl (fun _ _ => .inl (by simp)) harr⟩
 | outgrown => exact ⟨_, a₁, w₁, ⟨S₁, hq, hr₁⟩, .pass (x := .inLoop c) rfl (fun _ _ => .inl (by simp)) harr⟩
theorem AWP.block {id : Nat} (h : AWP P nt c (Zpf id Q) S) : AWP P nt (.block id c) Q S :=
 ⟨fun w0 M0 S0 ρ0 a w hr => wp_block (wp_mono (h.run w0 M0 S0 ρ0 a w hr) fun e a' w' ⟨S', hq, h'⟩ => by
  cases e with
  | exit i =>
   simp only [Exit.inBlock, Zpf] at hq ⊢
   by_cases hi : i = id
   ·rw [if_pos hi] at hq; rw [if_pos hi]; exact ⟨S', hq, h'⟩
   ·rw [if_neg hi] at hq; rw [if_neg hi]; exact ⟨S', hq, h'⟩
  | normal => exact ⟨S', hq, h'⟩
  | goto l => exact ⟨S', hq, h'⟩
  | ret => exact ⟨S', hq, h'⟩
  | panic ch => exact ⟨S', hq, h'⟩
  | outgrown => exact ⟨S', hq, h'⟩)⟩
def Zww (Q : Exit → AS → Prop) : Exit → AS → Prop
 | .goto _, _ => False
 | .normal, S => Q .normal S
 | .exit id, S => Q (.exit id) S
 | .ret, S => Q .ret S
 | .panic ch, S => Q (.panic ch) S
 | .outgrown, S => Q .outgrown S
theorem AWP.scope (h : AWP P nt c (Zww Q) S) : AWP P nt (.scope c) Q S :=
 ⟨fun w0 M0 S0 ρ0 a w hr => wp_scope_straight (wp_mono (h.run w0 M0 S0 ρ0 a w hr) fun e a' w' ⟨T, hq, h'⟩ => by
  cases e with
  | goto l => exact hq.elim
  | normal => exact ⟨T, hq, h'⟩
  | exit id => exact ⟨T, hq, h'⟩
  | ret => exact ⟨T, hq, h'⟩
  | panic ch => exact ⟨T, hq, h'⟩
  | outgrown => exact ⟨T, hq, h'⟩)⟩
theorem AWP.cut (M : AS → Prop) (h : AWP P nt x (ZpZ M Q) S) (k : ∀ T, M T → AWP P nt y Q T) : AWP P nt (.seq x y) Q S :=
 AWP.seq (h.mono fun e T hq => by cases e <;> first | exact k T hq | exact hq)
def ZGc (M : AS → Prop) : Exit → AS → Prop
 | .normal, T => M T
 | _, _ => False
theorem AWP.cutN (M : AS → Prop) (h : AWP P nt x (ZGc M) S) (k : ∀ T, M T → Q .normal T) : AWP P nt x Q S :=
 h.mono fun e T hq => by cases e <;> first | exact k T hq | exact hq.elim
def node (Dr : ZsQ) (P : Program) [Gl P] (L : Tab) (nt : Nat) : Code → (Exit → AS → Prop) → AS → Prop
 | .skip, Q, S => Q .normal S
 | .label _, Q, S => Q .normal S
 | .region _ ops draw, Q, S => if draw then Dr P L nt ops S (Q .normal) else ZnO P L nt ops ops.toList S (Q .normal)
 | .seq x y, Q, S => node Dr P L nt x (ZpZ (AWP P nt y Q) Q) S
 | .cond c x y, Q, S =>
  match S.ev c with
  | .c _ (.v (.bool b)) => Zhz b (AWP P nt x Q S) (AWP P nt y Q S)
  | _ => False
 | .block id c, Q, S => node Dr P L nt c (Zpf id Q) S
 | .loop c, Q, S => AWL P nt c Q S
 | .exit id, Q, S => Q (.exit id) S
 | .ret, Q, S => Q .ret S
 | _, _, _ => False
theorem AWP.node {Dr : ZsQ} {L : Tab} (hL : TOk P L) (hnt : nt ≤ EXT) (hD : Zn4 P L nt Dr) : ∀ (c : Code) (Q : Exit → AS → Prop) (S : AS), Am.node Dr P L nt c Q S → AWP P nt c Q S
 | .skip, Q, S, hk => ⟨fun w0 M0 S0 ρ0 a w h => wp_skip ⟨S, hk, h⟩⟩
 | .label l, Q, S, hk => ⟨fun w0 M0 S0 ρ0 a w h => wp_label ⟨S, hk, h⟩⟩
 | .exit id, Q, S, hk => ⟨fun w0 M0 S0 ρ0 a w h => wp_exit ⟨S, hk, h⟩⟩
 | .ret, Q, S, hk => ⟨fun w0 M0 S0 ρ0 a w h => wp_ret ⟨S, hk, h⟩⟩
 | .region id ops draw, Q, S, hk => ⟨fun w0 M0 S0 ρ0 a w h => by
   have : awp Dr P L nt (.region id ops draw) Q S := hk
   exact Zg8 hL hnt hD _ Q S a w this h⟩
 | .seq x y, Q, S, hk => AWP.seq (AWP.node hL hnt hD x _ S hk)
 | .cond c x y, Q, S, hk => ⟨fun w0 M0 S0 ρ0 a w h => by
   simp only [Am.node] at hk
   split at hk
   ·rename_i tk b hc
    have hv : a.eval c = .bool b := by
     obtain ⟨_, _, St, ρ, h3, _⟩ := h
     have := ZaZ h3 c
     rw [hc] at this
     exact (ZeI (d := .c tk (.v (.bool b))) this rfl).1
    refine wp_cond hv ?_
    cases b with
    | true => exact AWP.run hk _ _ _ _ _ _ h
    | false => exact AWP.run hk _ _ _ _ _ _ h
   ·exact hk.elim⟩
 | .block id c, Q, S, hk => AWP.block (AWP.node hL hnt hD c _ S hk)
 | .loop c, Q, S, hk => AWP.loop hk
 | .rangeFunc .., Q, S, hk => hk.elim
 | .scope _, Q, S, hk => hk.elim
 | .goto _, Q, S, hk => hk.elim
 | .refuse _, Q, S, hk => hk.elim
end
def Code.sub : Code → List Nat → Code
 | c, [] => c
 | .seq x y, i :: p => match i with | 0 => Code.sub x p | _ => Code.sub y p
 | .cond _ x y, i :: p => match i with | 0 => Code.sub x p | _ => Code.sub y p
 | .block _ c, _ :: p => Code.sub c p
 | .loop c, _ :: p => Code.sub c p
 | .scope c, _ :: p => Code.sub c p
 | c, _ => c
def Code.cont (P : Program) [Gl P] (nt : Nat) : Code → List Nat → (Exit → AS → Prop) → (Exit → AS → Prop)
 | _, [], Q => Q
 | .seq x y, i :: p, Q => match i with | 0 => Code.cont P nt x p (ZpZ (AWP P nt y Q) Q) | _ => Code.cont P nt y p Q
 | .cond _ x y, i :: p, Q => match i with | 0 => Code.cont P nt x p Q | _ => Code.cont P nt y p Q
 | .block id c, _ :: p, Q => Code.cont P nt c p (Zpf id Q)
 | .loop c, _ :: p, Q => Code.cont P nt c p (ZpZ (AWL P nt c Q) Q)
 | .scope c, _ :: p, Q => Code.cont P nt c p (Zww Q)
 | _, _, Q => Q

def Z4 (p : Prop) [Decidable p] : Option Unit := if p then some () else none
def ixI {α : Type} (l : List α) (i : Int) : Option α := if 0 ≤ i then l[i.toNat]? else none
def btI (s : ByteArray) (i : Int) : Option UInt8 := if 0 ≤ i then s[i.toNat]? else none
def slS (s : ByteArray) (l h : Int) : Option ByteArray := if 0 ≤ l ∧ l ≤ h ∧ h ≤ s.size then some (s.extract l.toNat h.toNat) else none
def slL {α : Type} (s : List α) (l h : Int) : Option (List α) := if 0 ≤ l ∧ l ≤ h ∧ h ≤ s.length then some ((s.take h.toNat).drop l.toNat) else none
theorem Zd8 {xs bs all : List Nat} {U S : AS} (h1 : Zuc S xs = Zuc U xs) (h2 : Zvb S bs = Zvb U bs) (h3 : (Zyh all S.tmps && ZxN all S.boxes) = true) : ck xs bs all U S := ⟨h1, h2, h3⟩
def ZfI {α β : Type} [BEq α] (k : α) : List (α × β) → Option β
 | [] => none
 | p :: m => if (k == p.1) = true then some p.2 else ZfI k m
def ZeP {α β : Type} [BEq α] (m : List (α × β)) (z : β) (k : α) : Option (β × Bool) := match ZfI k m with | some v => some (v, true) | none => some (z, false)
def ZhW {α β : Type} [BEq α] : List (α × β) → α → β → List (α × β)
 | [], k, v => [(k, v)]
 | p :: m, k, v => if (k == p.1) = true then (k, v) :: m else p :: ZhW m k v
def Zeb {α β : Type} (ek : α → List E) (ev : β → List E) (p : α × β) : List E := ek p.1 ++ ev p.2
structure Zko {α : Type} [BEq α] (ek : α → List E) : Prop where
 eq : ∀ a b, Zhe (ek a) (ek b) = some (a == b)
 one : ∀ a, (ek a).length = 1
theorem ZBJ {k : IntKind} : Zko (fun x : Int => [E.v (.int k x)]) := ⟨fun a b => by simp [Zhe], fun _ => rfl⟩
theorem ZvS : Zko (fun x : ByteArray => [E.v (.string x)]) := ⟨fun a b => by simp [Zhe], fun _ => rfl⟩
theorem key_bool : Zko (fun x : Bool => [E.v (.bool x)]) := ⟨fun a b => by simp [Zhe], fun _ => rfl⟩
theorem ZuY {α β : Type} [BEq α] {ek : α → List E} (hk : Zko ek) {ev : β → List E} (p : α × β) : (Zeb ek ev p).take 1 = ek p.1 ∧ (Zeb ek ev p).drop 1 = ev p.2 := by
 unfold Zeb
 rw [← hk.one p.1]
 simp
theorem ZqS {α β : Type} [BEq α] {ek : α → List E} (hk : Zko ek) {ev : β → List E} (k : α) : ∀ m : List (α × β), Zka 1 (ek k) (m.map (Zeb ek ev)) = some ((ZfI k m).map ev)
 | [] => rfl
 | p :: m => by
  obtain ⟨h1, h2⟩ := ZuY hk (ev := ev) p
  simp only [List.map_cons, Zka, h1, h2, hk.eq, ZfI]
  cases hb : k == p.1 with
  | true => simp
  | false => simpa using ZqS hk k m
theorem ZrC {α β : Type} [BEq α] {ek : α → List E} (hk : Zko ek) {ev : β → List E} (k : α) (v : β) : ∀ m : List (α × β), Zm0 1 (ek k) (ev v) (m.map (Zeb ek ev)) = some ((ZhW m k v).map (Zeb ek ev))
 | [] => rfl
 | p :: m => by
  obtain ⟨h1, h2⟩ := ZuY hk (ev := ev) p
  simp only [List.map_cons, Zm0, h1, hk.eq, ZhW]
  cases hb : k == p.1 with
  | true => simp [Zeb]
  | false => simp [ZrC hk k v m]
theorem ZoK {α β : Type} [BEq α] {m : List (α × β)} {k : α} {v : β} {ek : α → List E} (hk : Zko ek) {ev : β → List E} {cells : List E} (hw : WL cells (ev v)) {K : List (List E) → Prop} (h : K ((ZhW m k v).map (Zeb ek ev))) :
  ∃ val' rows', WL cells val' ∧ Zm0 1 (ek k) val' (m.map (Zeb ek ev)) = some rows' ∧ K rows' := ⟨ev v, _, hw, ZrC hk k v m, h⟩
theorem ZhE {α β : Type} [BEq α] {m : List (α × β)} {k : α} {ek : α → List E} (hk : Zko ek) {ev : β → List E} {z : β} {r : β × Bool} (h : ZeP m z k = some r) {cells : List E} (hv : ev r.1 = cells) {n : Nat} (hn : ∀ x, (ev x).length = n) {zc : List E} {zero : Option (List E)} (hz : zero = some zc) (hzl : zc.length = n) (hzw : WL zc (ev z))
  {K : Bool → List E → Prop} (hK : K r.2 cells) :
  ∃ cells ok cells', Zka 1 (ek k) (m.map (Zeb ek ev)) = some (bif ok then some cells else none) ∧ (ok = false → zero = some cells) ∧ cells.length = n ∧ WL cells cells' ∧ K ok cells' := by
 unfold ZeP at h
 cases hf : ZfI k m with
 | some v =>
  rw [hf] at h
  injection h with h
  subst h
  exact ⟨ev v, true, cells, by rw [ZqS hk, hf]; rfl, fun h => (by cases h), hn v, (by rw [← hv]; exact WL.refl _), hK⟩
 | none =>
  rw [hf] at h
  injection h with h
  subst h
  exact ⟨zc, false, cells, by rw [ZqS hk, hf]; rfl, fun _ => hz, hzl, (by rw [← hv]; exact hzw), hK⟩
theorem bind_some {α β : Type} {a : Option α} {f : α → Option β} {r : β} (h : (a >>= f) = some r) : ∃ x, a = some x ∧ f x = some r := by
 cases a with
 | none => cases h
 | some x => exact ⟨x, rfl, h⟩
theorem Zy {p : Prop} [Decidable p] {β : Type} {f : Unit → Option β} {r : β} (h : (Z4 p >>= f) = some r) : p ∧ f () = some r := by
 unfold Z4 at h
 split at h
 ·rename_i hp; exact ⟨hp, h⟩
 ·cases h
theorem ZcL {α β : Type} {l : List α} {i : Int} {f : α → Option β} {r : β} (h : (ixI l i >>= f) = some r) : ∃ x, 0 ≤ i ∧ l[i.toNat]? = some x ∧ f x = some r := by
 obtain ⟨x, hx, hf⟩ := bind_some h
 unfold ixI at hx
 split at hx
 ·exact ⟨x, by assumption, hx, hf⟩
 ·cases hx
theorem ZcX {β : Type} {s : ByteArray} {i : Int} {f : UInt8 → Option β} {r : β} (h : (btI s i >>= f) = some r) : ∃ x, 0 ≤ i ∧ s[i.toNat]? = some x ∧ f x = some r := by
 obtain ⟨x, hx, hf⟩ := bind_some h
 unfold btI at hx
 split at hx
 ·exact ⟨x, by assumption, hx, hf⟩
 ·cases hx
theorem ZfT {β : Type} {s : ByteArray} {l h : Int} {f : ByteArray → Option β} {r : β} (hh : (slS s l h >>= f) = some r) : ∃ t, 0 ≤ l ∧ l ≤ h ∧ h ≤ ((s.size : Nat) : Int) ∧ t = s.extract l.toNat h.toNat ∧ f t = some r := by
 obtain ⟨x, hx, hf⟩ := bind_some hh
 unfold slS at hx
 split at hx
 ·rename_i hc; injection hx with hx; exact ⟨x, hc.1, hc.2.1, hc.2.2, hx.symm, hf⟩
 ·cases hx
theorem Zu1 {α β : Type} {s : List α} {l h : Int} {f : List α → Option β} {r : β} (hh : (slL s l h >>= f) = some r) : ∃ t, 0 ≤ l ∧ l ≤ h ∧ h ≤ ((s.length : Nat) : Int) ∧ t = (s.take h.toNat).drop l.toNat ∧ f t = some r := by
 obtain ⟨x, hx, hf⟩ := bind_some hh
 unfold slL at hx
 split at hx
 ·rename_i hc; injection hx with hx; exact ⟨x, hc.1, hc.2.1, hc.2.2, hx.symm, hf⟩
 ·cases hx
theorem Zg {α : Type} {x r : α} (h : some x = some r) : x = r := Option.some.inj h
theorem ZpH {k n : Nat} (h : decide (((k : Nat) : Int) < ((n : Nat) : Int)) = true) : k < n := by simpa using h
theorem ZBM {b : Bool} {α : Type} {x y r : α} (hb : b = true) (h : (if b = true then x else y) = r) : x = r := by rwa [if_pos hb] at h
theorem ZBb {b : Bool} {α : Type} {x y r : α} (hb : b = false) (h : (if b = true then x else y) = r) : y = r := by subst hb; simpa using h
theorem Zi {b : Bool} {A B : Prop} {α : Type} {x y : Option α} {r : α} (h : (if b = true then x else y) = some r) (h1 : b = true → x = some r → A) (h2 : b = false → y = some r → B) : Zhz b A B := by
 cases b
 ·exact h2 rfl (by simpa using h)
 ·exact h1 rfl (by simpa using h)
theorem branchG_hF {b : Bool} {A B : Prop} {α : Type} {x y : Option α} {r : α} (want : Bool) (h : (if b = true then x else y) = some r) (h1 : b = true → x = some r → (match want with | true => A | false => B)) (h2 : b = false → y = some r → (match want with | true => B | false => A)) : Zis b want A B := by
 cases b <;> cases want
 ·exact h2 rfl (by simpa using h)
 ·exact h2 rfl (by simpa using h)
 ·exact h1 rfl (by simpa using h)
 ·exact h1 rfl (by simpa using h)
theorem Zm {b : Bool} {A B : Prop} (want : Bool) (h1 : b = true → (match want with | true => A | false => B)) (h2 : b = false → (match want with | true => B | false => A)) : Zis b want A B := by
 cases b <;> cases want
 ·exact h2 rfl
 ·exact h2 rfl
 ·exact h1 rfl
 ·exact h1 rfl
theorem ZN {α : Type} {l pre post : List α} {k : Nat} {A B : Prop} (h : l = pre ++ post) (hk : k = pre.length) (h1 : ∀ x post', post = x :: post' → l[k]? = some x → k < l.length → A) (h2 : post = [] → B) :
  Zhz (decide (((k : Nat) : Int) < ((l.length : Nat) : Int))) A B := by
 subst hk
 cases post with
 | nil =>
  have : decide (((pre.length : Nat) : Int) < ((l.length : Nat) : Int)) = false := by subst h; simp
  rw [this]; exact h2 rfl
 | cons x post' =>
  have hlt : pre.length < l.length := by subst h; simp
  have : decide (((pre.length : Nat) : Int) < ((l.length : Nat) : Int)) = true := by simpa using hlt
  rw [this]; exact h1 x post' rfl (by subst h; simp) hlt
theorem ZbO {α : Type} {f : α → List E} {n : Nat} (l : List α) (h : ∀ x, (f x).length = n) : ∀ row ∈ l.map f, row.length = n := by
 intro row hr
 obtain ⟨x, _, rfl⟩ := List.mem_map.1 hr
 exact h x
theorem ZAF {n : Nat} : ∀ row ∈ ([] : List (List E)), row.length = n := fun _ h => absurd h List.not_mem_nil
theorem rows_one {n : Nat} {r : List E} (h : r.length = n) : ∀ row ∈ [r], row.length = n := fun row hr => by simp at hr; subst hr; exact h
theorem rows_cons {n : Nat} {r : List E} {l : List (List E)} (h : r.length = n) (k : ∀ row ∈ l, row.length = n) : ∀ row ∈ r :: l, row.length = n := fun row hr => by
 rcases List.mem_cons.1 hr with rfl | hr
 ·exact h
 ·exact k row hr
theorem Zab {α : Type} {f : α → List E} {l : List α} {k : Nat} {x : α} {row : List E} (hc : f x = row) (h : l[k]? = some x) : (l.map f)[((k : Nat) : Int).toNat]? = some row := by
 show (l.map f)[k]? = some row
 rw [List.getElem?_map, h, Option.map_some, hc]
theorem ZbX {α : Type} {f : α → List E} {l : List α} {i : Int} {x : α} {row : List E} (hc : f x = row) (h : l[i.toNat]? = some x) : (l.map f)[i.toNat]? = some row := by
 rw [List.getElem?_map, h, Option.map_some, hc]
theorem ZV {n k : Nat} (h : n ≤ maxLen) (hk : k < n) : IntKind.i64.wrap (((k : Nat) : Int) + 1) = (((k + 1 : Nat) : Nat) : Int) := by
 have e : IntKind.i64.wrap ((k : Int) + 1) = (k : Int) + 1 := by
  exact IntWalk.i64_in ((k : Int) + 1) ⟨by omega, by unfold maxLen at h; omega⟩
 rw [e]; rfl
theorem Zdv {k : Nat} (hk : k + 1 ≤ 9223372036854775807) : IntKind.i64.wrap (((k : Nat) : Int) + 1) = (((k + 1 : Nat) : Nat) : Int) := by
 have e : IntKind.i64.wrap ((k : Int) + 1) = (k : Int) + 1 := by
  exact IntWalk.i64_in ((k : Int) + 1) ⟨by omega, by omega⟩
 rw [e]; rfl
theorem slice_rows {α : Type} {g : α → List E} {s t : List α} {l h : Int} (ht : t = (s.take h.toNat).drop l.toNat) : ((s.map g).take h.toNat).drop l.toNat = t.map g := by
 rw [ht, List.map_drop, List.map_take]
def rn (l : List (Nat × Nat)) (n : Nat) : Nat := (ZO l n).getD n
section
variable {r : Nat → Nat} {S T : AS} {e e' : E} {tk : Option (Nat × Nat)}
theorem WE.of_eq (h : e = e') : WE e e' := h ▸ .refl e
theorem ZHy {x y : Bool} (h : x = y) : WE (.v (.bool x)) (.v (.bool y)) := h ▸ .refl _
theorem Zdf {k : IntKind} {x y : Int} (h : x = y) : WE (.v (.int k x)) (.v (.int k y)) := h ▸ .refl _
theorem Zb : WTs r S [] := trivial
theorem Zd {i : Nat} {d : D} {l : List (Nat × D)} (h : WD r (S.get i) d) (k : WTs r S l) : WTs r S ((i, d) :: l) := ⟨h, k⟩
theorem wd_bot {d : D} : WD r d .bot := by cases d <;> first | trivial | (rename_i tk _; cases tk <;> trivial)
theorem Zr (k : WE e e') : WD r (.c tk e) (.c none e') := ⟨by cases tk <;> trivial, .inl k⟩
theorem Zal {s t q : Nat} (h : r s = t) (k : WE e e') : WD r (.c (some (s, q)) e) (.c (some (t, q)) e') := ⟨⟨h, rfl⟩, .inl k⟩
theorem ZjT {t q : Nat} : WD r (.c none .nils) (.c (some (t, q)) (.sl [])) := ⟨trivial, .inl .nil⟩
theorem wd_nilt {s t q : Nat} (h : r s = t) : WD r (.c (some (s, q)) .nils) (.c (some (t, q)) (.sl [])) := ⟨⟨h, rfl⟩, .inl .nil⟩
theorem Zt {a b : List E} (h : WL a b) : WD r (.agg a) (.agg b) := h
theorem wd_ref {a b : List E} (h : WL a b) : WD r (.ref a) (.ref b) := h
theorem Zc9 {a b : List X} (h : WXs a b) : WD r (.tup a) (.tup b) := h
theorem ZDd {n o : Nat} : WD r (.ptr n o) (.ptr n o) := ⟨rfl, rfl⟩
theorem Zo : WL [] [] := trivial
theorem ZaR {x y : E} {xs ys : List E} (h : WE x y) (k : WL xs ys) : WL (x :: xs) (y :: ys) := ⟨h, k⟩
theorem Zda : WXs [] [] := trivial
theorem ZcG {xs ys : List X} (h : WE e e') (k : WXs xs ys) : WXs (.c e :: xs) (.c e' :: ys) := ⟨h, k⟩
theorem ZAl {a b : List E} {xs ys : List X} (h : WL a b) (k : WXs xs ys) : WXs (.agg a :: xs) (.agg b :: ys) := ⟨h, k⟩
theorem Zh : WCs r [] [] := trivial
theorem Ze3 {xs ys : List Cell} (h : WE e e') (k : WCs r xs ys) : WCs r ((tk, e) :: xs) ((none, e') :: ys) := ⟨⟨by cases tk <;> trivial, .inl h⟩, k⟩
theorem ZtE {s t q : Nat} {xs ys : List Cell} (h0 : r s = t) (h : WE e e') (k : WCs r xs ys) : WCs r ((some (s, q), e) :: xs) ((some (t, q), e') :: ys) := ⟨⟨⟨h0, rfl⟩, .inl h⟩, k⟩
theorem Zno {t q : Nat} {xs ys : List Cell} (k : WCs r xs ys) : WCs r ((none, .nils) :: xs) ((some (t, q), .sl []) :: ys) := ⟨⟨trivial, .inl .nil⟩, k⟩
theorem Zc : WBs r S [] := trivial
theorem Zf {n : Nat} {ds cs : List Cell} {l : ZbK} (h0 : S.box n = some ds) (h : WCs r ds cs) (k : WBs r S l) : WBs r S ((n, cs) :: l) := ⟨by unfold WB; rw [h0]; exact h, k⟩
theorem ZY {α : Type} {f : α → List E} : WE (.sl []) (.sl (([] : List α).map f)) := .refl _
theorem Zbs {α : Type} {f : α → List E} {row : List E} {rows : List (List E)} {x : α} {xs : List α} (h : WL row (f x)) (k : WE (.sl rows) (.sl (xs.map f))) : WE (.sl (row :: rows)) (.sl ((x :: xs).map f)) := by
 have := WE.app (WE.row h) k
 exact this
theorem ZdA {row a b : List E} (h : b = a) (k : WL row a) : WL row b := h ▸ k
end
def ZbY (d' : D) (bx' : ZbK) (d : D) (b : ZbK) : Prop := ∃ r, WS r ⟨[(0, d)], b⟩ ⟨[(0, d')], bx'⟩
def Zq (fn : Func) : Code := fn.body.getD .skip
theorem enter {P : Program} [Gl P] {L : Tab} (hL : TOk P L) {f : FuncId} {fn : Func} (hf : P.funcs[f]? = some fn) (hb : fn.body.isSome = true) (hname : (fn.name == "runtime.NumGoroutine") = false)
  {args : List D} {bx bx' : ZbK} {d' : D} (hargs : args.length ≤ fn.ntmps)
  (hk : AWP P fn.ntmps (Zq fn) (ZbW L fn.results (ZbY d' bx')) ⟨ZdY 0 args, bx⟩) : Zj P f args bx fun d b => d = d' ∧ b = bx' := by
 refine Zj.weakRes ?_
 obtain ⟨c, hc⟩ := Option.isSome_iff_exists.1 hb
 have hbo : Zq fn = c := by unfold Zq; rw [hc]; rfl
 rw [hbo] at hk
 exact ZwV hL hf hc hname hargs hk.run
def Zey (G G' : Prop) : Prop := G' → G
theorem Zey.side {A B G' : Prop} (a : A) (r : Zey B G') : Zey (A ∧ B) G' := fun g => ⟨a, r g⟩
theorem Zey.done {G : Prop} : Zey G G := id
theorem Zey.free {α β : Type} {A B C : α → β → Prop} {G' : Prop} {v : α} {s : β} (a : A v s) (b : B v s) (c : Zey (C v s) G') : Zey (∃ v s, A v s ∧ B v s ∧ C v s) G' := fun g => ⟨v, s, a, b, c g⟩
theorem st {G G' : Prop} (h : G') (s : Zey G G' := by
  (repeat (first | ((conv => (arg 1; whnf)); (with_reducible apply Zey.side); (focus (first | exact Eq.refl _ | exact trivial | (with_reducible assumption) | (with_reducible exact Int.natCast_nonneg _) | exact Nat.le_of_ble_eq_true (Eq.refl true) | exact Zd8 (Eq.refl _) (Eq.refl _) (Eq.refl _) | decide)))))
  (conv => (arg 1; whnf))
  exact Zey.done) : G := s h
theorem sr {A G G' : Prop} (e : A) (h : G') (s : A → Zey G G' := by
  intro e
  (repeat (first | ((conv => (arg 1; whnf)); (with_reducible apply Zey.side); (focus (first | exact Eq.refl _ | exact trivial | (with_reducible assumption) | (with_reducible exact Int.natCast_nonneg _) | exact Nat.le_of_ble_eq_true (Eq.refl true) | exact Zd8 (Eq.refl _) (Eq.refl _) (Eq.refl _) | decide))) | ((conv => (arg 1; whnf)); rw [e])))
  (conv => (arg 1; whnf))
  exact Zey.done) : G := s e h
theorem dp {G G' : Prop} (h : G') (s : Zey G G' := by
  (repeat (first | ((conv => (arg 1; whnf)); (with_reducible apply Zey.side); (focus (first | exact Eq.refl _ | exact trivial | (with_reducible assumption) | (with_reducible exact Int.natCast_nonneg _) | exact Nat.le_of_ble_eq_true (Eq.refl true) | exact Zd8 (Eq.refl _) (Eq.refl _) (Eq.refl _) | decide)))))
  (conv => (arg 1; whnf))
  with_reducible apply Zey.free
  (focus (((repeat (first | ((conv => whnf); (with_reducible refine And.intro ?_ ?_); (focus (first | exact Eq.refl _ | exact trivial | (with_reducible assumption) | (with_reducible exact Int.natCast_nonneg _) | exact Nat.le_of_ble_eq_true (Eq.refl true) | exact Zd8 (Eq.refl _) (Eq.refl _) (Eq.refl _) | decide))))); (conv => whnf)) <;> (exact rfl)))
  (focus exact rfl)
  (conv => (arg 1; whnf))
  exact Zey.done) : G := s h
theorem dr {A G G' : Prop} (e : A) (h : G') (s : A → Zey G G' := by
  intro e
  (repeat (first | ((conv => (arg 1; whnf)); (with_reducible apply Zey.side); (focus (first | exact Eq.refl _ | exact trivial | (with_reducible assumption) | (with_reducible exact Int.natCast_nonneg _) | exact Nat.le_of_ble_eq_true (Eq.refl true) | exact Zd8 (Eq.refl _) (Eq.refl _) (Eq.refl _) | decide)))))
  (conv => (arg 1; whnf))
  with_reducible apply Zey.free
  (focus ((((repeat (first | ((conv => whnf); (with_reducible refine And.intro ?_ ?_); (focus (first | exact Eq.refl _ | exact trivial | (with_reducible assumption) | (with_reducible exact Int.natCast_nonneg _) | exact Nat.le_of_ble_eq_true (Eq.refl true) | exact Zd8 (Eq.refl _) (Eq.refl _) (Eq.refl _) | decide))))); (conv => whnf)) <;> (rw [e]) <;> ((repeat (first | ((conv => whnf); (with_reducible refine And.intro ?_ ?_); (focus (first | exact Eq.refl _ | exact trivial | (with_reducible assumption) | (with_reducible exact Int.natCast_nonneg _) | exact Nat.le_of_ble_eq_true (Eq.refl true) | exact Zd8 (Eq.refl _) (Eq.refl _) (Eq.refl _) | decide))))); (conv => whnf)) <;> (exact rfl))))
  (focus exact rfl)
  (conv => (arg 1; whnf))
  exact Zey.done) : G := s e h
theorem dl {G G' : Prop} (h : G') (s : Zey G G' := by
  (repeat (first | ((conv => (arg 1; whnf)); (with_reducible apply Zey.side); (focus (first | exact Eq.refl _ | exact trivial | (with_reducible assumption) | (with_reducible exact Int.natCast_nonneg _) | exact Nat.le_of_ble_eq_true (Eq.refl true) | exact Zd8 (Eq.refl _) (Eq.refl _) (Eq.refl _) | decide)))))
  (conv => (arg 1; whnf))
  with_reducible apply Zey.free
  (focus ((((repeat (first | ((conv => whnf); (with_reducible refine And.intro ?_ ?_); (focus (first | exact Eq.refl _ | exact trivial | (with_reducible assumption) | (with_reducible exact Int.natCast_nonneg _) | exact Nat.le_of_ble_eq_true (Eq.refl true) | exact Zd8 (Eq.refl _) (Eq.refl _) (Eq.refl _) | decide))))); (conv => whnf)) <;> (intro hlen0; (try rw [List.length_map])) <;> ((repeat (first | ((conv => whnf); (with_reducible refine And.intro ?_ ?_); (focus (first | exact Eq.refl _ | exact trivial | (with_reducible assumption) | (with_reducible exact Int.natCast_nonneg _) | exact Nat.le_of_ble_eq_true (Eq.refl true) | exact Zd8 (Eq.refl _) (Eq.refl _) (Eq.refl _) | decide))))); (conv => whnf)) <;> (exact rfl))))
  (focus exact rfl)
  (conv => (arg 1; whnf))
  exact Zey.done) : G := s h
theorem da {A G G' : Prop} (e : A) (h : G') (s : A → Zey G G' := by
  intro e
  (repeat (first | ((conv => (arg 1; whnf)); (with_reducible apply Zey.side); (focus (first | exact Eq.refl _ | exact trivial | (with_reducible assumption) | (with_reducible exact Int.natCast_nonneg _) | exact Nat.le_of_ble_eq_true (Eq.refl true) | exact Zd8 (Eq.refl _) (Eq.refl _) (Eq.refl _) | decide)))))
  (conv => (arg 1; whnf))
  with_reducible apply Zey.free
  (focus ((((repeat (first | ((conv => whnf); (with_reducible refine And.intro ?_ ?_); (focus (first | exact Eq.refl _ | exact trivial | (with_reducible assumption) | (with_reducible exact Int.natCast_nonneg _) | exact Nat.le_of_ble_eq_true (Eq.refl true) | exact Zd8 (Eq.refl _) (Eq.refl _) (Eq.refl _) | decide))))); (conv => whnf)) <;> (refine And.intro e ?_) <;> ((repeat (first | ((conv => whnf); (with_reducible refine And.intro ?_ ?_); (focus (first | exact Eq.refl _ | exact trivial | (with_reducible assumption) | (with_reducible exact Int.natCast_nonneg _) | exact Nat.le_of_ble_eq_true (Eq.refl true) | exact Zd8 (Eq.refl _) (Eq.refl _) (Eq.refl _) | decide))))); (conv => whnf)) <;> (exact rfl))))
  (focus exact rfl)
  (conv => (arg 1; whnf))
  exact Zey.done) : G := s e h
theorem de {A G G' : Prop} (e : A) (h : G') (s : A → Zey G G' := by
  intro e
  (repeat (first | ((conv => (arg 1; whnf)); (with_reducible apply Zey.side); (focus (first | exact Eq.refl _ | exact trivial | (with_reducible assumption) | (with_reducible exact Int.natCast_nonneg _) | exact Nat.le_of_ble_eq_true (Eq.refl true) | exact Zd8 (Eq.refl _) (Eq.refl _) (Eq.refl _) | decide)))))
  (conv => (arg 1; whnf))
  with_reducible apply Zey.free
  (focus ((((repeat (first | ((conv => whnf); (with_reducible refine And.intro ?_ ?_); (focus (first | exact Eq.refl _ | exact trivial | (with_reducible assumption) | (with_reducible exact Int.natCast_nonneg _) | exact Nat.le_of_ble_eq_true (Eq.refl true) | exact Zd8 (Eq.refl _) (Eq.refl _) (Eq.refl _) | decide))))); (conv => whnf)) <;> (refine Exists.intro _ (And.intro e ?_)) <;> ((repeat (first | ((conv => whnf); (with_reducible refine And.intro ?_ ?_); (focus (first | exact Eq.refl _ | exact trivial | (with_reducible assumption) | (with_reducible exact Int.natCast_nonneg _) | exact Nat.le_of_ble_eq_true (Eq.refl true) | exact Zd8 (Eq.refl _) (Eq.refl _) (Eq.refl _) | decide))))); (conv => whnf)) <;> (exact rfl))))
  (focus exact rfl)
  (conv => (arg 1; whnf))
  exact Zey.done) : G := s e h
theorem s3 {A B C G G' : Prop} (a : A) (b : B) (c : C) (h : G') (s : A → B → C → Zey G G' := by
  intro a b c
  (repeat (first | ((conv => (arg 1; whnf)); (with_reducible apply Zey.side); (focus (first | exact Eq.refl _ | exact trivial | (with_reducible assumption) | (with_reducible exact Int.natCast_nonneg _) | exact Nat.le_of_ble_eq_true (Eq.refl true) | exact Zd8 (Eq.refl _) (Eq.refl _) (Eq.refl _) | decide))) | ((with_reducible apply Zey.side); (focus (first | exact a | exact b | exact c)))))
  exact Zey.done) : G := s a b c h
theorem sa {A B G G' : Prop} (a : A) (b : B) (h : G') (s : A → B → Zey G G' := by
  intro a b
  (repeat (first | ((conv => (arg 1; whnf)); (with_reducible apply Zey.side); (focus (first | exact Eq.refl _ | exact trivial | (with_reducible assumption) | (with_reducible exact Int.natCast_nonneg _) | exact Nat.le_of_ble_eq_true (Eq.refl true) | exact Zd8 (Eq.refl _) (Eq.refl _) (Eq.refl _) | decide))) | ((with_reducible apply Zey.side); (focus (first | exact a _ | exact ZAF | (simp only [List.length_map, List.length_set]; exact Nat.le_refl _) | (have h := b; simp only [List.length_map, List.length_append, List.length_cons, List.length_nil, Nat.zero_add] at h ⊢; first | exact h | (unfold maxLen; omega) | omega))))))
  exact Zey.done) : G := s a b h
theorem e3 {α β γ : Type} {K : List α → List β → List γ → Prop} (h : K [] [] []) : ∃ a b c, K a b c := ⟨[], [], [], h⟩
theorem cm {P : Program} [Gl P] {f : FuncId} {args : List D} {bx b0 : ZbK} {d0 : D} {K : D → ZbK → Prop} (h : Zj P f args bx fun d b => d = d0 ∧ b = b0) (k : K d0 b0) : Zj P f args bx K :=
 Zj.mono h fun d b hh => by obtain ⟨rfl, rfl⟩ := hh; exact k
theorem ift {A : Prop} {b : Bool} {α : Type} {x y r : α} (a : A) (h : (if b = true then x else y) = r) (hb : A → b = true := by intro a; first | assumption | exact Eq.refl _ | simp only [a, Bool.and_true, Bool.true_and, Bool.and_false, Bool.false_and, Bool.or_true, Bool.true_or, Bool.or_false, Bool.false_or, Bool.not_true, Bool.not_false, cond_true, cond_false, List.length_map]) : x = r := ZBM (hb a) h
theorem ife {A : Prop} {b : Bool} {α : Type} {x y r : α} (a : A) (h : (if b = true then x else y) = r) (hb : A → b = false := by intro a; first | assumption | exact Eq.refl _ | simp only [a, Bool.and_true, Bool.true_and, Bool.and_false, Bool.false_and, Bool.or_true, Bool.true_or, Bool.or_false, Bool.false_or, Bool.not_true, Bool.not_false, cond_true, cond_false, List.length_map]) : y = r := ZBb (hb a) h
theorem web {A : Prop} {x y : Bool} (a : A) (h : A → x = y := by intro a; first | exact Eq.refl _ | simp only [a, Bool.and_true, Bool.true_and, Bool.and_false, Bool.false_and, Bool.or_true, Bool.true_or, Bool.or_false, Bool.false_or, Bool.not_true, Bool.not_false, cond_true, cond_false, List.length_map]) : WE (.v (.bool x)) (.v (.bool y)) := ZHy (h a)
theorem wei {A : Prop} {k : IntKind} {x y : Int} (a : A) (h : A → x = y := by intro a; first | exact Eq.refl _ | simp only [a, Bool.and_true, Bool.true_and, Bool.and_false, Bool.false_and, Bool.or_true, Bool.true_or, Bool.or_false, Bool.false_or, Bool.not_true, Bool.not_false, cond_true, cond_false, List.length_map]) : WE (.v (.int k x)) (.v (.int k y)) := Zdf (h a)
section
variable {r : Nat → Nat} {S T : AS} {e : E} {tk : Option (Nat × Nat)}
theorem tc {i : Nat} {l : List (Nat × D)} (k : WTs r S l) (h : WD r (S.get i) (.c none e) := by exact Zr (WE.refl _)) : WTs r S ((i, .c none e) :: l) := ⟨h, k⟩
theorem tp {i n o : Nat} {l : List (Nat × D)} (k : WTs r S l) (h : WD r (S.get i) (.ptr n o) := by exact ZDd) : WTs r S ((i, .ptr n o) :: l) := ⟨h, k⟩
theorem lc {xs ys : List E} (k : WL xs ys) : WL (e :: xs) (e :: ys) := ⟨.refl _, k⟩
theorem cc {xs ys : List Cell} (k : WCs r xs ys) : WCs r ((tk, e) :: xs) ((none, e) :: ys) := Ze3 (.refl _) k
theorem wx (h : WS (rn []) S T) : ∃ r, WS r S T := ⟨_, h⟩
end
theorem Zaf {n a b : Nat} (h : a = b) : WE (.rs n a) (.rs n b) := h ▸ WE.refl _
theorem ZtU {α : Type} {X : List α} {v : Nat} {x : α} (h : X[v]? = some x) : ((v : Nat) : Int) < ((X.length : Nat) : Int) := by
 have := (List.getElem?_eq_some_iff.1 h).1; omega
theorem ZpL {α : Type} {X : List α} {i : Int} {x : α} (h0 : 0 ≤ i) (h : X[i.toNat]? = some x) : i < ((X.length : Nat) : Int) := by
 have := (List.getElem?_eq_some_iff.1 h).1; omega
theorem ZDM {α : Type} {f : α → List E} {X : List α} {i : Nat} {row : List E} {v : α} (h : WL row (f v)) : WE (.sl ((X.map f).set i row)) (.sl ((X.set i v).map f)) := by
 refine WE.rows (by simp) fun k ra rb ha hb => ?_
 by_cases hik : i = k
 ·subst hik
  have hl : i < X.length := by
   have := (List.getElem?_eq_some_iff.1 ha).1
   simpa using this
  rw [List.getElem?_set_self (by simpa using hl)] at ha
  rw [List.getElem?_map, List.getElem?_set_self hl] at hb
  simp only [Option.map_some, Option.some.injEq] at ha hb
  subst ha hb
  exact h
 ·rw [List.getElem?_set_ne hik] at ha
  rw [List.getElem?_map, List.getElem?_set_ne hik, ← List.getElem?_map] at hb
  rw [ha] at hb
  injection hb with hb
  subst hb
  exact WL.refl _
theorem ZrD {α : Type} {f : α → List E} {X Y : List α} {l : Nat} (h : l = X.length) : (X.map f).take l ++ Y.map f = (X ++ Y).map f := by
 subst h
 rw [List.map_append]
 congr 1
 exact List.take_of_length_le (by simp)
theorem Zq6 {α β : Type} {X Y : List α} {Z : List β} {l : Nat} (h : l = X.length) (hz : Z.length = Y.length) : l + Z.length = (X ++ Y).length := by subst h; rw [List.length_append, hz]
theorem ZB4 {α : Type} {g : α → List E} {s t : List α} {h : Int} (ht : t = (s.take h.toNat).drop ((0 : Nat) : Int).toNat) : (s.map g).take h.toNat = t.map g := by
 rw [ht]
 show (s.map g).take h.toNat = (s.take h.toNat).map g
 rw [List.map_take]
theorem Zzr {α : Type} {s t : List α} {h : Int} (h3 : h ≤ ((s.length : Nat) : Int)) (ht : t = (s.take h.toNat).drop ((0 : Nat) : Int).toNat) : h.toNat = t.length := by
 rw [ht]
 show h.toNat = (s.take h.toNat).length
 rw [List.length_take]; omega

theorem CallsA.of_calls {P : Program} [Gl P] {f : FuncId} {args : List D} {K : D → Prop} (hc : ZqD P f)
  (h : ∀ (w : World) (St : Zar) (ρ : Nat → Nat) (ZbZ : Array Value), ZbZ.size = args.length → (∀ i, ZdM w St ρ ((⟨ZdY 0 args, []⟩ : AS).get i) (ZbZ.getD i undef)) → (∀ b o, St b o → b < w.heap.size) → ZkU P w St →
   Calls P f ZbZ w fun e w' => ∃ x, e = .returned x ∧ x.oneCell' = true ∧ K (.c none (.v x)) ∧ Below w.heap.size w w') : CallsA P f args K := by
 refine ⟨hc, fun w S0 M0 ZbZ ρ hv hr => ?_⟩
 refine (h w S0 ρ ZbZ hv (fun i => hr.tmp i) hr.lt hr.glob).mono ?_
 rintro e w' ⟨x, rfl, ho, hk, bel⟩
 have hno : ∀ {t k : Nat} {e : E} {v : Value}, ¬ Zbw (⟨[(0, .c none (.v x))], []⟩ : AS) #[x] w' ρ t k e v := by
  rintro t k e v (⟨i, hi, _⟩ | ⟨n, cs, j, hb, _⟩)
  ·simp only [AS.get, ZO] at hi
   split at hi <;> simp at hi
  ·simp [AS.box, ZO] at hb
 refine ⟨x, .c none (.v x), [], S0, ρ, rfl, hk, fun _ _ _ => ⟨rfl, rfl⟩, ?_⟩
 exact { glob := hr.glob, os := bel.os, tape := bel.tape, output := bel.output, size := bel.size, old := fun b hb _ => bel.block b hb
         stay := fun b o hs => bel.cell (p := ⟨b, o, none⟩) (hr.lt b o hs), up := fun _ _ h => h, dn := fun _ _ h _ => .inl h, lt := fun b o hs => Nat.lt_of_lt_of_le (hr.lt b o hs) bel.size
         tmp := fun i => by
           simp only [AS.get, ZO]
           split
           · rename_i h0; subst h0; exact .e _ _ (.v x ho)
           · exact trivial
         nm := fun n cs hb => by simp [AS.box, ZO] at hb
         box := fun n cs hb => by simp [AS.box, ZO] at hb, inj := fun n m cs ds hb => by simp [AS.box, ZO] at hb
         own := fun t k e v hh => (hno hh).elim, apart := fun t k e v t' k' e' v' hh => (hno hh).elim, ownbox := fun t k e v n cs hh => (hno hh).elim }
def D.bare : D → Bool
 | .c (some _) _ => false
 | .ptr _ _ => false
 | .ept _ _ _ _ => false
 | _ => true
theorem CallsA.of_callsD {P : Program} [Gl P] {f : FuncId} {args : List D} {K : D → Prop} (hc : ZqD P f)
  (h : ∀ (w : World) (St : Zar) (ρ : Nat → Nat) (ZbZ : Array Value), ZbZ.size = args.length → (∀ i, ZdM w St ρ ((⟨ZdY 0 args, []⟩ : AS).get i) (ZbZ.getD i undef)) → (∀ b o, St b o → b < w.heap.size) → ZkU P w St →
   Calls P f ZbZ w fun e w' => ∃ x r, e = .returned x ∧ ZdM w' (fun b o => St b o ∨ (w.heap.size ≤ b ∧ b < w'.heap.size)) ρ r x ∧ r.bare = true ∧ K r ∧ Below w.heap.size w w') : CallsA P f args K := by
 refine ⟨hc, fun w S0 M0 ZbZ ρ hv hr => ?_⟩
 refine (h w S0 ρ ZbZ hv (fun i => hr.tmp i) hr.lt hr.glob).mono ?_
 rintro e w' ⟨x, r, rfl, hrep, hb, hk, bel⟩
 have hno : ∀ {t k : Nat} {e : E} {v : Value}, ¬ Zbw (⟨[(0, r)], []⟩ : AS) #[x] w' ρ t k e v := by
  rintro t k e v (⟨i, hi, _⟩ | ⟨n, cs, j, hb, _⟩)
  ·simp only [AS.get, ZO] at hi
   split at hi
   ·simp only [Option.getD_some] at hi; subst hi; cases hb
   ·simp at hi
  ·simp [AS.box, ZO] at hb
 refine ⟨x, r, [], (fun b o => S0 b o ∨ (w.heap.size ≤ b ∧ b < w'.heap.size)), ρ, rfl, hk, fun _ _ _ => ⟨rfl, rfl⟩, ?_⟩
 exact { glob := hr.glob, os := bel.os, tape := bel.tape, output := bel.output, size := bel.size, old := fun b hb _ => bel.block b hb
         stay := fun b o hs => bel.cell (p := ⟨b, o, none⟩) (hr.lt b o hs), up := fun _ _ h => .inl h, dn := fun b o h hl => by rcases h with h | h; exact .inl h; omega
         lt := fun b o hs => by rcases hs with hs | hs; exact Nat.lt_of_lt_of_le (hr.lt b o hs) bel.size; exact hs.2
         tmp := fun i => by
           simp only [AS.get, ZO]
           split
           · rename_i h0; subst h0; exact hrep
           · exact trivial
         nm := fun n cs hb => by simp [AS.box, ZO] at hb
         box := fun n cs hb => by simp [AS.box, ZO] at hb, inj := fun n m cs ds hb => by simp [AS.box, ZO] at hb
         own := fun t k e v hh => (hno hh).elim, apart := fun t k e v t' k' e' v' hh => (hno hh).elim, ownbox := fun t k e v n cs hh => (hno hh).elim }
theorem rep_strings {w : World} {St : Zar} {xs : List ByteArray} {v : Value} (h : ZcK w St (.sl (xs.map fun x => [.v (.string x)])) v) :
  ∃ A c, v = .slice A xs.length c ∧ xs.length ≤ c ∧ c ≤ maxLen ∧ (xs ≠ [] → ∃ b o, A = some ⟨b, o, none⟩ ∧ St b o ∧ ∀ (j : Nat) x, xs[j]? = some x → w.cell? ⟨b, o + j, none⟩ = some (.string x)) := by
 cases h with
 | sl _ A n c sz b o ZbZ hn hc hm hA hs hv hr =>
  rw [List.length_map] at hn
  subst hn
  refine ⟨A, c, rfl, hc, hm, fun hne => ⟨b, o, hA (List.length_pos_iff.2 hne), ?_, fun j x hj => ?_⟩⟩
  ·obtain ⟨x, hx⟩ : ∃ x, xs[0]? = some x := ⟨_, List.getElem?_eq_getElem (List.length_pos_iff.2 hne)⟩
   have := (hv 0 0 [.v (.string x)] (.v (.string x)) (by simp [hx]) rfl).1
   simpa using this
  ·have h1 : (xs.map fun x => [E.v (.string x)])[j]? = some [.v (.string x)] := by simp [hj]
   have hsz : sz = 1 := by have := hs j _ h1; simpa using this.symm
   subst hsz
   obtain ⟨_, h3⟩ := hv j 0 _ (.v (.string x)) h1 rfl
   have h4 := hr j 0 _ (.v (.string x)) h1 rfl
   have h5 : ZbZ j 0 = .string x := by generalize ZbZ j 0 = y at h4; cases h4; rfl
   rw [h5] at h3
   simpa using h3

inductive Sh (L : Tab) : Nat → List E → Prop
 | bool (t : Nat) (b : Bool) (h : (L.ti t).k = .bool) : Sh L t [.v (.bool b)]
 | int (t : Nat) (k : IntKind) (n : Int) (h : (L.ti t).k = .int k) (hn : k.min ≤ n ∧ n ≤ k.max) : Sh L t [.v (.int k n)]
 | string (t : Nat) (s : ByteArray) (h : (L.ti t).k = .string) (hs : s.size ≤ maxLen) : Sh L t [.v (.string s)]
 | slice (t e : Nat) (rows : List (List E)) (h : (L.ti t).k = .slice e) (hl : rows.length ≤ maxLen) (hr : ∀ (i : Nat) (row : List E), rows[i]? = some row → Sh L e row) : Sh L t [.sl rows]
 | struct (t : Nat) (fs : List (Nat × Nat)) (parts : List (List E)) (h : (L.ti t).k = .struct fs) (hl : parts.length = fs.length) (hf : ∀ (i ft off : Nat) (part : List E), fs[i]? = some (ft, off) → parts[i]? = some part → Sh L ft part) : Sh L t parts.flatten
 | array (t n e : Nat) (parts : List (List E)) (h : (L.ti t).k = .array n e) (hl : parts.length = n) (hf : ∀ (i : Nat) (part : List E), parts[i]? = some part → Sh L e part) : Sh L t parts.flatten
def Zvp (L : Tab) (total : Nat) : Nat → List (Nat × Nat) → Bool
 | off, [] => off == total
 | off, (t, o) :: fs => o == off && Zvp L total (off + (L.ti t).size) fs
def simpleIn (L : Tab) (R : List Nat) : Bool := R.all fun t =>
 match (L.ti t).k with
 | .bool | .int _ | .string => true
 | .slice e => R.contains e && (L.ti e).size != 0
 | .array n e => R.contains e && n * (L.ti e).size == (L.ti t).size
 | .struct fs => Zvp L (L.ti t).size 0 fs && fs.all fun f => R.contains f.1
 | _ => false
def old (w : World) : Zar := fun b _ => b < w.heap.size
theorem ZwZ {α : Type} {p : Nat → α → Prop} : ∀ n, (∀ i, i < n → ∃ x, p i x) → ∃ l : List α, l.length = n ∧ ∀ i x, l[i]? = some x → p i x
 | 0, _ => ⟨[], rfl, fun i x h => by simp at h⟩
 | n + 1, h => by
  obtain ⟨l, hl, hp⟩ := ZwZ n fun i hi => h i (by omega)
  obtain ⟨x, hx⟩ := h n (by omega)
  refine ⟨l ++ [x], by simp [hl], fun i y hy => ?_⟩
  rcases Nat.lt_or_ge i n with hi | hi
  ·rw [List.getElem?_append_left (by omega)] at hy; exact hp i y hy
  ·rw [List.getElem?_append_right (by omega)] at hy
   have : i = n := by
    rcases Nat.lt_or_ge (i - l.length) 1 with h1 | h1
    ·omega
    ·rw [List.getElem?_eq_none (by simpa using h1)] at hy; cases hy
   subst this
   rw [hl] at hy
   simp at hy; subst hy; exact hx
theorem ZfC.append {w : World} {St : Zar} {a b : List E} {u v : List Value} (h : ZfC w St a u) (k : ZfC w St b v) : ZfC w St (a ++ b) (u ++ v) := by
 refine ⟨by simp [h.1, k.1], fun i e he => ?_⟩
 rcases Nat.lt_or_ge i a.length with hi | hi
 ·rw [List.getElem?_append_left hi] at he
  rw [List.getElem?_append_left (by rw [← h.1]; exact hi)]
  exact h.2 i e he
 ·rw [List.getElem?_append_right hi] at he
  rw [List.getElem?_append_right (by rw [← h.1]; exact hi), ← h.1]
  exact k.2 _ e he
mutual
def ZiA {H : Type} : DataW H → Nat
 | .lit (.string bytes) => bytes.length + 1
 | .lit _ => 1
 | .nil => 1
 | .ptr d => ZiA d + 1
 | .slice elems spare => bulks elems + bulks spare + 1
 | .agg parts => bulks parts + 1
 | .iface _ d => ZiA d + 1
 | .map entries => Zrz entries + 1
 | .held _ => 1
def bulks {H : Type} : List (DataW H) → Nat
 | [] => 0
 | d :: r => ZiA d + bulks r
def Zrz {H : Type} : List (Lit × DataW H) → Nat
 | [] => 0
 | x :: r => Zy1 x + Zrz r
def Zy1 {H : Type} : Lit × DataW H → Nat
 | (.string bytes, d) => bytes.length + ZiA d + 1
 | (_, d) => ZiA d + 1
end
mutual
def Zov : E → Nat
 | .v (.string s) => s.size + 1
 | .v _ => 1
 | .sl rows => ZhJ rows + 1
 | .nils => 1
 | .ifc _ => 1
 | _ => 1
def Zcs : List E → Nat
 | [] => 0
 | e :: es => Zov e + Zcs es
def ZhJ : List (List E) → Nat
 | [] => 0
 | r :: rs => Zcs r + ZhJ rs
end
theorem Zit : ∀ a b : List E, Zcs (a ++ b) = Zcs a + Zcs b
 | [], b => by simp [Zcs]
 | x :: a, b => by rw [List.cons_append, Zcs, Zcs, Zit a b]; omega
def Zse (m : Nat → Nat) : Nat → Nat
 | 0 => 0
 | n + 1 => m 0 + Zse (fun i => m (i + 1)) n
theorem ZsS : ∀ (rows : List (List E)) (m : Nat → Nat), (∀ (i : Nat) (row : List E), rows[i]? = some row → Zcs row ≤ m i) → ZhJ rows ≤ Zse m rows.length
 | [], m, _ => by simp [ZhJ]
 | r :: rs, m, h => by
  rw [ZhJ, List.length_cons, Zse]
  exact Nat.add_le_add (h 0 r rfl) (ZsS rs _ fun i row hi => h (i + 1) row hi)
def mX {H β : Type} (xs : List (DataW H × β)) (i : Nat) : Nat := match xs[i]? with | some y => ZiA y.1 | none => 0
theorem Zqy {H β : Type} : ∀ xs : List (DataW H × β), Zse (mX xs) xs.length = bulks (xs.map (·.1))
 | [] => by simp [Zse, bulks]
 | x :: xs => by
  rw [List.length_cons, Zse, List.map_cons, bulks, ← Zqy xs]
  rfl
theorem ZAi {H β : Type} {xs : List (DataW H × β)} {i : Nat} {y : DataW H × β} (h : xs[i]? = some y) : mX xs i = ZiA y.1 := by unfold mX; rw [h]
theorem Zs5 {w : World} {St : Zar} {L : Tab} {cs : List Value} : ∀ (fs : List (Nat × Nat)) (off : Nat) (m : Nat → Nat), Zvp L cs.length off fs = true →
  (∀ (i ft o : Nat), fs[i]? = some (ft, o) → ∃ es, Sh L ft es ∧ ZfC w St es ((cs.drop o).take (L.ti ft).size) ∧ Zcs es ≤ m i) →
  ∃ parts : List (List E), parts.length = fs.length ∧ (∀ (i ft o : Nat) (part : List E), fs[i]? = some (ft, o) → parts[i]? = some part → Sh L ft part) ∧ ZfC w St parts.flatten (cs.drop off) ∧ Zcs parts.flatten ≤ Zse m fs.length
 | [], off, m, hl, _ => by
  simp only [Zvp, beq_iff_eq] at hl
  exact ⟨[], rfl, fun i ft o part h => by simp at h, by subst hl; simp [ZfC], by simp [Zcs]⟩
 | (t, o) :: fs, off, m, hl, h => by
  simp only [Zvp, Bool.and_eq_true, beq_iff_eq] at hl
  obtain ⟨rfl, hl⟩ := hl
  obtain ⟨es, he, hr, hb⟩ := h 0 t o rfl
  obtain ⟨parts, h1, h2, h3, h4⟩ := Zs5 fs _ (fun i => m (i + 1)) hl fun i ft o' hi => h (i + 1) ft o' hi
  refine ⟨es :: parts, by simp [h1], fun i ft o' part hi hp => ?_, ?_, by rw [List.flatten_cons, Zit, List.length_cons, Zse]; omega⟩
  ·cases i with
   | zero => simp only [List.getElem?_cons_zero, Option.some.injEq, Prod.mk.injEq] at hi hp; obtain ⟨rfl, rfl⟩ := hi; subst hp; exact he
   | succ i => exact h2 i ft o' part hi hp
  ·have := hr.append h3
   rw [List.flatten_cons]
   rwa [show List.drop (o + (L.ti t).size) cs = List.drop (L.ti t).size (List.drop o cs) by rw [List.drop_drop], List.take_append_drop] at this
theorem Zu7 {w : World} {St : Zar} {L : Tab} {e sz : Nat} : ∀ (n : Nat) (cs : List Value) (m : Nat → Nat), cs.length = n * sz →
  (∀ i, i < n → ∃ es, Sh L e es ∧ ZfC w St es ((cs.drop (i * sz)).take sz) ∧ Zcs es ≤ m i) →
  ∃ parts : List (List E), parts.length = n ∧ (∀ (i : Nat) (part : List E), parts[i]? = some part → Sh L e part) ∧ ZfC w St parts.flatten cs ∧ Zcs parts.flatten ≤ Zse m n
 | 0, cs, m, hl, _ => ⟨[], rfl, fun i part h => by simp at h, by
   have : cs = [] := List.eq_nil_of_length_eq_zero (by simpa using hl)
   subst this; simp [ZfC], by simp [Zcs]⟩
 | n + 1, cs, m, hl, h => by
  obtain ⟨es, he, hr, hb⟩ := h 0 (by omega)
  obtain ⟨parts, h1, h2, h3, h4⟩ := Zu7 n (cs.drop sz) (fun i => m (i + 1)) (by rw [List.length_drop, hl, Nat.succ_mul, Nat.add_sub_cancel]) fun i hi => by
   obtain ⟨es, he, hr, hb⟩ := h (i + 1) (by omega)
   refine ⟨es, he, ?_, hb⟩
   rwa [List.drop_drop, show sz + i * sz = (i + 1) * sz by rw [Nat.succ_mul]; omega]
  refine ⟨es :: parts, by simp [h1], fun i part hp => ?_, ?_, by rw [List.flatten_cons, Zit, Zse]; omega⟩
  ·cases i with
   | zero => simp only [List.getElem?_cons_zero, Option.some.injEq] at hp; subst hp; exact he
   | succ i => exact h2 i part hp
  ·have := hr.append h3
   rw [List.flatten_cons]
   simpa [Nat.zero_mul] using this
section
variable {H : Type} {enc : TypeId × Value → H} {P : Program} [Gl P] {w : World} {L : Tab} (hL : TOk P L) {R : List Nat} (hR : simpleIn L R = true)
theorem Ty.cells {t : Nat} {d : TypeDesc} {ti : TypeInfo} {i : TI} (h : Ty P i t d ti) : P.cellsOf t = i.size := by
 simp [Program.cellsOf, h.info, h.size]
include hL hR in
theorem Zjm {t : Nat} (ht : R.contains t = true) : ∃ d ti, Ty P (L.ti t) t d ti := by
 refine hL.ty (.inl ?_)
 have := List.all_eq_true.1 hR t (by simpa using ht)
 unfold TI.known
 split at this <;> simp_all
include hL hR in
theorem Zw2 {spare : Nat → Bool} {held : Bool} : ∀ (fuel t : Nat) (cs : List Value) (x : DataW H × List MemPlace), R.contains t = true → DataW.trod enc P w 0 spare held fuel t cs = some x →
  ∃ es, Sh L t es ∧ ZfC w (old w) es cs ∧ Zcs es ≤ ZiA x.1 := by
 intro fuel
 induction fuel with
 | zero => intro t cs x _ h; simp [DataW.trod] at h
 | succ fuel ih =>
  intro t cs x ht h
  obtain ⟨d, ti, hty⟩ := Zjm hL hR ht
  have hs := List.all_eq_true.1 hR t (by simpa using ht)
  have one : ∀ (e : E) (v : Value), ZcK w (old w) e v → ZfC w (old w) [e] [v] := fun e v hr => ⟨rfl, fun k e' hk => by
   cases k with
   | zero => simp only [List.getElem?_cons_zero, Option.some.injEq] at hk; subst hk; exact ⟨v, rfl, hr⟩
   | succ k => simp at hk⟩
  have hk := hty.k
  have hu := hty.und
  unfold DataW.trod at h
  cases hd : d with
  | bool =>
   subst hd
   rw [hu] at h
   match cs, h with
   | [.bool b], h =>
    simp only [Option.some.injEq] at h; subst h
    exact ⟨_, .bool t b hk, one _ _ (.v _ rfl), by simp [Zcs, Zov, ZiA]⟩
  | int k =>
   subst hd
   rw [hu] at h
   match cs, h with
   | [.int k' n], h =>
    simp only at h
    split at h
    ·rename_i hc; obtain ⟨rfl, hc⟩ := hc; simp only [Option.some.injEq] at h; subst h; exact ⟨_, .int t _ _ hk (by simpa [Lit.wf] using hc), one _ _ (.v _ rfl), by simp [Zcs, Zov, ZiA]⟩
    ·cases h
  | string =>
   subst hd
   rw [hu] at h
   match cs, h with
   | [.string s], h =>
    simp only at h
    split at h
    ·rename_i hc; simp only [Option.some.injEq] at h; subst h; exact ⟨_, .string t _ hk hc, one _ _ (.v _ rfl), by simp [Zcs, Zov, ZiA]⟩
    ·cases h
  | slice e =>
   subst hd
   rw [hu] at h
   rw [hk] at hs
   simp only [Zgz, Bool.and_eq_true, bne_iff_ne, ne_eq] at hs
   obtain ⟨he, hsz⟩ := hs
   obtain ⟨de, tie, hte⟩ := Zjm hL hR he
   match cs, h with
   | [.slice none 0 0], h =>
    simp only [Option.some.injEq] at h; subst h
    exact ⟨_, .slice t e [] hk (by simp) (fun i row hi => by simp at hi), one _ _ (.sl [] none 0 0 0 0 0 (fun _ _ => undef) rfl (by omega) (by simp) (fun h0 => by omega) (fun i row hi => by simp at hi) (fun i k row e hi => by simp at hi) (fun i k row e hi => by simp at hi)), by simp [Zcs, Zov, ZhJ, ZiA]⟩
   | [.slice (some a) len cap], h =>
    simp only at h
    split at h
    case isFalse => cases h
    rename_i hc
    obtain ⟨_, hlc, hcm⟩ := hc
    simp only [Option.bind_eq_some_iff] at h
    obtain ⟨elems, helems, hrest⟩ := h
    simp only [Option.map_eq_some_iff] at hrest
    obtain ⟨rest, _, hx⟩ := hrest
    have hget := mapM_some_get helems
    have hlen := mapM_some_length helems
    simp only [List.length_range] at hlen
    have row_of : ∀ i, i < len → ∃ row : List E, Sh L e row ∧ Zcs row ≤ mX elems i ∧ ∃ vs : List Value, w.cells? 0 (a.add (i * P.cellsOf e)) (P.cellsOf e) = some vs ∧ ZfC w (old w) row vs := fun i hi => by
     have h1 := hget i i (by rw [List.getElem?_range hi])
     rw [List.getElem?_eq_getElem (by omega : i < elems.length)] at h1
     simp only [Option.bind_eq_some_iff] at h1
     obtain ⟨vs, h2, h3⟩ := h1
     obtain ⟨row, h4, h5, h6⟩ := ih e vs _ he h3
     exact ⟨row, h4, by rw [ZAi (List.getElem?_eq_getElem (by omega : i < elems.length))]; exact h6, vs, h2, h5⟩
    obtain ⟨rows, hrl, hrows⟩ := ZwZ len row_of
    have hcell : ∀ (i k : Nat) (row : List E) (x : E), rows[i]? = some row → row[k]? = some x → ∃ u, w.cell? ((a.add (i * P.cellsOf e)).add k) = some u ∧ ZcK w (old w) x u := fun i k row x hi hx => by
     obtain ⟨_, _, vs, h1, h2⟩ := hrows i row hi
     obtain ⟨u, hu1, hu2⟩ := h2.2 k x hx
     unfold World.cells? at h1
     rw [if_pos (Nat.zero_le _)] at h1
     have hkl : k < P.cellsOf e := by
      have := mapM_some_length h1
      rw [List.length_range] at this
      rw [← this]
      exact (List.getElem?_eq_some_iff.1 hu1).1
     have h3 := mapM_some_get h1 k k (by rw [List.getElem?_range hkl])
     exact ⟨u, h3.trans hu1, hu2⟩
    have hrow : ∀ (i : Nat) (row : List E), rows[i]? = some row → row.length = (L.ti e).size := fun i row hi => by
     obtain ⟨_, _, vs, h1, h2⟩ := hrows i row hi
     unfold World.cells? at h1
     rw [if_pos (Nat.zero_le _)] at h1
     have := mapM_some_length h1
     rw [List.length_range] at this
     rw [h2.1, this, hte.cells]
    have hspot : 0 < len → a.spot = none := fun h0 => by
     obtain ⟨row, hr0⟩ : ∃ row, rows[0]? = some row := ⟨_, List.getElem?_eq_getElem (by omega)⟩
     have h1 := hrow 0 row hr0
     obtain ⟨x, hx⟩ : ∃ x, row[0]? = some x := ⟨_, List.getElem?_eq_getElem (by omega)⟩
     obtain ⟨u, h2, _⟩ := hcell 0 0 row x hr0 hx
     simp only [Nat.zero_mul, Addr.add, if_true] at h2
     unfold World.cell? at h2
     split at h2
     ·split at h2
      ·cases h2
      ·rename_i hn; simpa using hn
     ·cases h2
    have hadd : ∀ i k, 0 < len → (a.add (i * P.cellsOf e)).add k = ⟨a.block, a.off + i * (L.ti e).size + k, none⟩ := fun i k h0 => by
     have ha : a = ⟨a.block, a.off, none⟩ := by have := hspot h0; cases a; simp_all
     rw [ha, ZeR, ZeR, hte.cells]
    refine ⟨_, .slice t e rows hk (by omega) (fun i row hi => (hrows i row hi).1), one _ _ (.sl rows (some a) len cap (L.ti e).size a.block a.off (fun i k => (w.cell? ⟨a.block, a.off + i * (L.ti e).size + k, none⟩).getD undef) hrl hlc hcm
     (fun h0 => by have := hspot h0; cases a; simp_all) hrow (fun i k row x hi hx => ?_) (fun i k row x hi hx => ?_)), ?_⟩
    rotate_right
    ·have h1 := ZsS rows (mX elems) fun i row hi => (hrows i row hi).2.1
     rw [hrl, show len = elems.length by omega, Zqy] at h1
     subst hx
     simp only [Zcs, Zov, ZiA]; omega
    ·have h0 : 0 < len := by rw [← hrl]; exact Nat.lt_of_le_of_lt (Nat.zero_le i) (List.getElem?_eq_some_iff.1 hi).1
     obtain ⟨u, h1, h2⟩ := hcell i k row x hi hx
     rw [hadd i k h0] at h1
     refine ⟨World.block_lt_of_cell? w ⟨a.block, a.off + i * (L.ti e).size + k, none⟩ h1, by rw [h1]; rfl⟩
    ·have h0 : 0 < len := by rw [← hrl]; exact Nat.lt_of_le_of_lt (Nat.zero_le i) (List.getElem?_eq_some_iff.1 hi).1
     obtain ⟨u, h1, h2⟩ := hcell i k row x hi hx
     rw [hadd i k h0] at h1
     rw [h1]; exact h2
  | struct fs =>
   subst hd
   rw [hu] at h
   rw [hk] at hs
   simp only [Zgz, Bool.and_eq_true] at hs
   obtain ⟨hlaid, hin⟩ := hs
   simp only at h
   split at h
   case isFalse => cases h
   rename_i hlen
   simp only [Option.map_eq_some_iff] at h
   obtain ⟨xs, hxs, hx⟩ := h
   have hget := mapM_some_get hxs
   have hlx := mapM_some_length hxs
   obtain ⟨parts, h1, h2, h3, h6⟩ := Zs5 (w := w) (St := old w) (L := L) (cs := cs) (fs.toList.map fun f => (f.type, f.offset)) 0 (mX xs) (by rw [hlen, hty.cells]; exact hlaid) fun i ft o hi => by
    rw [List.getElem?_map] at hi
    cases hf : fs.toList[i]? with
    | none => rw [hf] at hi; cases hi
    | some f =>
     rw [hf] at hi
     simp only [Option.map_some, Option.some.injEq, Prod.mk.injEq] at hi
     obtain ⟨rfl, rfl⟩ := hi
     have h1 := hget i f hf
     have hc : R.contains f.type = true := by
      refine List.all_eq_true.1 hin (f.type, f.offset) (List.mem_map.2 ⟨f, List.mem_of_getElem? hf, rfl⟩)
     obtain ⟨df, tif, htf⟩ := Zjm hL hR hc
     cases hx : xs[i]? with
     | none =>
      have := mapM_some_length hxs
      have := (List.getElem?_eq_some_iff.1 hf).1
      have := List.getElem?_eq_none_iff.1 hx
      omega
     | some y =>
      rw [hx] at h1
      obtain ⟨es, h4, h5, h6⟩ := ih f.type _ y hc h1
      exact ⟨es, h4, by rwa [htf.cells] at h5, by rw [ZAi hx]; exact h6⟩
   rw [List.length_map, ← hlx, Zqy] at h6
   subst hx
   exact ⟨_, .struct t _ parts hk h1 h2, by simpa using h3, by simp only [ZiA]; omega⟩
  | array n e =>
   subst hd
   rw [hu] at h
   rw [hk] at hs
   simp only [Zgz, Bool.and_eq_true, beq_iff_eq] at hs
   obtain ⟨hin, hsz⟩ := hs
   obtain ⟨de, tie, hte⟩ := Zjm hL hR hin
   simp only at h
   split at h
   case isFalse => cases h
   rename_i hlen
   simp only [Option.map_eq_some_iff] at h
   obtain ⟨xs, hxs, hx⟩ := h
   have hget := mapM_some_get hxs
   have hlx := mapM_some_length hxs
   rw [List.length_range] at hlx
   obtain ⟨parts, h1, h2, h3, h6⟩ := Zu7 (w := w) (St := old w) (L := L) (e := e) (sz := (L.ti e).size) n cs (mX xs) (by rw [hlen, hty.cells]; exact hsz.symm) fun i hi => by
    have h1 := hget i i (by rw [List.getElem?_range hi])
    rw [List.getElem?_eq_getElem (by omega : i < xs.length), hte.cells] at h1
    rw [ZAi (List.getElem?_eq_getElem (by omega : i < xs.length))]
    exact ih e _ _ hin h1
   rw [← hlx, Zqy] at h6
   subst hx
   exact ⟨_, .array t n e parts hk h1 h2, h3, by simp only [ZiA]; omega⟩
  | _ => subst hd; rw [hk] at hs; simp [Zgz] at hs
include hL hR in
theorem arg_c {base : Nat} {ρ : Nat → Nat} {spare : Nat → Bool} {held : Bool} {t : Nat} {v : Value} {d : DataW H} {ps : List MemPlace} (ht : R.contains t = true) (hagg : (L.ti t).isAgg = false) (hok : Value.okWide P w .any base t v)
  (h : DataW.Trod enc P w 0 spare held t v d ps) : ∃ e, Sh L t [e] ∧ ZdM w (old w) ρ (.c none e) v ∧ Zcs [e] ≤ ZiA d := by
 obtain ⟨fuel, h⟩ := h
 obtain ⟨es, h1, h2, hb⟩ := Zw2 hL hR fuel t _ _ ht h
 obtain ⟨d', ti, hty⟩ := Zjm hL hR ht
 have hv : v.cells = #[v] := by
  have hk := hty.k
  unfold Value.okWide at hok
  rw [hty.und] at hok
  cases v with
  | agg cs =>
   unfold TI.isAgg at hagg
   rw [hk] at hagg
   cases d' <;> simp_all [Zgz, Cell.okWide, Cell.ok]
  | _ => rfl
 rw [hv] at h2
 match es, h1, h2, hb with
 | [e], h1, h2, hb =>
  obtain ⟨u, hu, hr⟩ := h2.2 0 e rfl
  simp only [List.getElem?_cons_zero, Option.some.injEq] at hu
  subst hu
  exact ⟨e, h1, .e _ _ hr, hb⟩
 | [], _, h2, _ => exact absurd h2.1 (by simp)
 | _ :: _ :: _, _, h2, _ => exact absurd h2.1 (by simp)
include hL hR in
theorem arg_agg {base : Nat} {ρ : Nat → Nat} {spare : Nat → Bool} {held : Bool} {t : Nat} {v : Value} {d : DataW H} {ps : List MemPlace} (ht : R.contains t = true) (hagg : (L.ti t).isAgg = true) (hok : Value.okWide P w .any base t v)
  (h : DataW.Trod enc P w 0 spare held t v d ps) : ∃ es, Sh L t es ∧ ZdM w (old w) ρ (.agg es) v ∧ Zcs es ≤ ZiA d := by
 obtain ⟨fuel, h⟩ := h
 obtain ⟨es, h1, h2, hb⟩ := Zw2 hL hR fuel t _ _ ht h
 obtain ⟨d', ti, hty⟩ := Zjm hL hR ht
 obtain ⟨cs, rfl⟩ : ∃ cs, v = .agg cs := by
  have hk := hty.k
  unfold Value.okWide at hok
  rw [hty.und] at hok
  unfold TI.isAgg at hagg
  rw [hk] at hagg
  cases d' <;> simp_all [Zgz]
  ·obtain ⟨cs, rfl, _⟩ := hok; exact ⟨cs, rfl⟩
  ·obtain ⟨cs, rfl, _⟩ := hok; exact ⟨cs, rfl⟩
 exact ⟨es, h1, ⟨cs.toList, by simp, .of h2⟩, hb⟩
def D.tokless : D → Bool
 | .c (some _) _ => false
 | _ => true
theorem Zyn {ρ : Nat → Nat} {args : List D} {ZbZ : Array Value} (hn : args.all D.tokless = true) (hr : ∀ i, ZdM w (old w) ρ ((⟨ZdY 0 args, []⟩ : AS).get i) (ZbZ.getD i undef)) (hG : ZkU P w (old w)) :
  ZK P w (fun _ => False) (old w) ⟨ZdY 0 args, []⟩ ZbZ w (old w) ρ := by
 have look_at : ∀ (l : List D) (j i : Nat) (d : D), ZO (ZdY j l) i = some d → d ∈ l := by
  intro l
  induction l with
  | nil => intro j i d h; simp [ZdY, ZO] at h
  | cons a l ih =>
   intro j i d h
   simp only [ZdY, ZO] at h
   split at h
   ·simp only [Option.some.injEq] at h; subst h; simp
   ·exact List.mem_cons_of_mem _ (ih _ _ _ h)
 have hno : ∀ {t k : Nat} {e : E} {v : Value}, ¬ Zbw (⟨ZdY 0 args, []⟩ : AS) ZbZ w ρ t k e v := by
  rintro t k e v (⟨i, hi, _⟩ | ⟨n, cs, j, hb, _⟩)
  ·simp only [AS.get] at hi
   cases hl : ZO (ZdY 0 args) i with
   | none => rw [hl] at hi; cases hi
   | some d =>
    rw [hl] at hi
    simp only [Option.getD_some] at hi
    subst hi
    have := List.all_eq_true.1 hn _ (look_at _ _ _ _ hl)
    simp [D.tokless] at this
  ·simp [AS.box, ZO] at hb
 exact { glob := hG, os := rfl, tape := rfl, output := rfl, size := Nat.le_refl _, old := fun _ _ _ => rfl, stay := fun _ _ _ => rfl, up := fun _ _ h => h, dn := fun _ _ h _ => .inl h, lt := fun _ _ h => h
         tmp := hr, nm := fun n cs hb => by simp [AS.box, ZO] at hb
         box := fun n cs hb => by simp [AS.box, ZO] at hb, inj := fun n m cs ds hb => by simp [AS.box, ZO] at hb
         own := fun t k e v hh => (hno hh).elim, apart := fun t k e v t' k' e' v' hh => (hno hh).elim, ownbox := fun t k e v n cs hh => (hno hh).elim }
theorem law_calls {f : FuncId} {args : List D} {ZbZ : Array Value} {ρ : Nat → Nat} (hn : args.all D.tokless = true) (hs : ZbZ.size = args.length) (hr : ∀ i, ZdM w (old w) ρ ((⟨ZdY 0 args, []⟩ : AS).get i) (ZbZ.getD i undef)) (hG : ZkU P w (old w))
  (h : CallsA P f args fun r => r = .c none (.v (.bool true))) : Calls P f ZbZ w fun e w' => e = .returned (.bool true) ∧ Below w.heap.size w w' := by
 refine (h.runs w (old w) (fun _ => False) ZbZ ρ hs (Zyn hn hr hG)).mono ?_
 rintro e w' ⟨v, r, bx', St', ρ', rfl, rfl, _, hrel⟩
 have h0 := hrel.tmp 0
 have : v = .bool true := by
  have := ZeI (d := .c none (.v (.bool true))) (y := .bool true) h0 rfl
  exact this.1
 exact ⟨by rw [this], hrel.os, hrel.tape, hrel.output, hrel.size, fun k hk => hrel.old k hk (fun h => h)⟩
end
theorem ZGU {α : Type} {l : List α} (h : l.length = 1) : ∃ a, l = [a] := by
 match l, h with | [a], _ => exact ⟨a, rfl⟩
theorem ZHA {α : Type} {l : List α} (h : l.length = 2) : ∃ a b, l = [a, b] := by
 match l, h with | [a, b], _ => exact ⟨a, b, rfl⟩
theorem get5 {α : Type} {l : List α} (h : l.length = 5) : ∃ a b c d e, l = [a, b, c, d, e] := by
 match l, h with | [a, b, c, d, e], _ => exact ⟨a, b, c, d, e, rfl⟩
theorem ZEb {L : Tab} {t : Nat} {es : List E} (h : Sh L t es) {k : IntKind} (hk : (L.ti t).k = .int k) : ∃ n, es = [.v (.int k n)] ∧ k.min ≤ n ∧ n ≤ k.max := by
 cases h with
 | int _ k' n h hn => rw [hk] at h; injection h with h; subst h; exact ⟨n, rfl, hn⟩
 | bool _ _ h => rw [hk] at h; cases h
 | string _ _ h => rw [hk] at h; cases h
 | slice _ _ _ h => rw [hk] at h; cases h
 | struct _ _ _ h => rw [hk] at h; cases h
 | array _ _ _ _ h => rw [hk] at h; cases h
theorem sh_bool {L : Tab} {t : Nat} {es : List E} (h : Sh L t es) (hk : (L.ti t).k = .bool) : ∃ b, es = [.v (.bool b)] := by
 cases h with
 | bool _ b h => exact ⟨b, rfl⟩
 | int _ _ _ h => rw [hk] at h; cases h
 | string _ _ h => rw [hk] at h; cases h
 | slice _ _ _ h => rw [hk] at h; cases h
 | struct _ _ _ h => rw [hk] at h; cases h
 | array _ _ _ _ h => rw [hk] at h; cases h
theorem ZxQ {L : Tab} {t : Nat} {es : List E} (h : Sh L t es) (hk : (L.ti t).k = .string) : ∃ s : ByteArray, es = [.v (.string s)] ∧ s.size ≤ maxLen := by
 cases h with
 | string _ s h hs => exact ⟨s, rfl, hs⟩
 | bool _ _ h => rw [hk] at h; cases h
 | int _ _ _ h => rw [hk] at h; cases h
 | slice _ _ _ h => rw [hk] at h; cases h
 | struct _ _ _ h => rw [hk] at h; cases h
 | array _ _ _ _ h => rw [hk] at h; cases h
theorem ZAY {L : Tab} {t e : Nat} {es : List E} (h : Sh L t es) (hk : (L.ti t).k = .slice e) : ∃ rows, es = [.sl rows] ∧ rows.length ≤ maxLen ∧ ∀ row ∈ rows, Sh L e row := by
 cases h with
 | slice _ e' rows h hl hr => rw [hk] at h; injection h with h; subst h; exact ⟨rows, rfl, hl, fun row hm => by obtain ⟨i, hi, rfl⟩ := List.mem_iff_getElem.1 hm; exact hr i _ (List.getElem?_eq_getElem hi)⟩
 | bool _ _ h => rw [hk] at h; cases h
 | int _ _ _ h => rw [hk] at h; cases h
 | string _ _ h => rw [hk] at h; cases h
 | struct _ _ _ h => rw [hk] at h; cases h
 | array _ _ _ _ h => rw [hk] at h; cases h
theorem sh_struct {L : Tab} {t : Nat} {fs : List (Nat × Nat)} {es : List E} (h : Sh L t es) (hk : (L.ti t).k = .struct fs) :
  ∃ parts : List (List E), es = parts.flatten ∧ parts.length = fs.length ∧ ∀ (i ft off : Nat) (part : List E), fs[i]? = some (ft, off) → parts[i]? = some part → Sh L ft part := by
 cases h with
 | struct _ fs' parts h hl hf => rw [hk] at h; injection h with h; subst h; exact ⟨parts, rfl, hl, hf⟩
 | bool _ _ h => rw [hk] at h; cases h
 | int _ _ _ h => rw [hk] at h; cases h
 | string _ _ h => rw [hk] at h; cases h
 | slice _ _ _ h => rw [hk] at h; cases h
 | array _ _ _ _ h => rw [hk] at h; cases h
theorem ZyS {L : Tab} {t n e : Nat} {es : List E} (h : Sh L t es) (hk : (L.ti t).k = .array n e) :
  ∃ parts : List (List E), es = parts.flatten ∧ parts.length = n ∧ ∀ (i : Nat) (part : List E), parts[i]? = some part → Sh L e part := by
 cases h with
 | array _ n' e' parts h hl hf => rw [hk] at h; injection h with h1 h2; subst h1 h2; exact ⟨parts, rfl, hl, hf⟩
 | bool _ _ h => rw [hk] at h; cases h
 | int _ _ _ h => rw [hk] at h; cases h
 | string _ _ h => rw [hk] at h; cases h
 | slice _ _ _ h => rw [hk] at h; cases h
 | struct _ _ _ h => rw [hk] at h; cases h
theorem get3 {α : Type} {l : List α} (h : l.length = 3) : ∃ a b c, l = [a, b, c] := by
 match l, h with | [a, b, c], _ => exact ⟨a, b, c, rfl⟩
theorem ZIs {α : Type} {l : List α} (h : l.length = 4) : ∃ a b c d, l = [a, b, c, d] := by
 match l, h with | [a, b, c, d], _ => exact ⟨a, b, c, d, rfl⟩
theorem ZoW {α : Type} {f : α → List E} : ∀ rows : List (List E), (∀ row ∈ rows, ∃ x, row = f x) → ∃ l : List α, rows = l.map f
 | [], _ => ⟨[], rfl⟩
 | r :: rs, h => by
  obtain ⟨x, rfl⟩ := h r (by simp)
  obtain ⟨l, rfl⟩ := ZoW rs fun row hm => h row (by simp [hm])
  exact ⟨x :: l, rfl⟩

end Go.Am
