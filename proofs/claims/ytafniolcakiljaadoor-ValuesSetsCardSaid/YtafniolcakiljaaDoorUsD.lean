/- Part 4 of the proof: the abstract machine and its soundness. It holds for every input, without conditions. -/
import Derived.Scope
import Derived.IntWalk
import Derived.Test.YtafniolcakiljaaDoorUsA
import Derived.Test.YtafniolcakiljaaDoorUsB
import Derived.Test.YtafniolcakiljaaDoorUsC
set_option linter.unusedVariables false
set_option linter.unusedSimpArgs false
namespace Go.Am
open Go.RowKit
theorem Zj.weak {P : Program} [Gl P] {f : FuncId} {args args' : List D} {bx bx' : ZX} {K : D → ZX → Prop} (r : Nat → Nat) (h : Zj P f args bx K) (hl : args'.length = args.length)
  (hw : WS r ⟨ZaT 0 args', bx'⟩ ⟨ZaT 0 args, bx⟩) : Zj P f args' bx' K :=
 ⟨h.1, fun w S0 M0 ZT ρ hv hr => h.2 w S0 M0 ZT ρ (hv.trans hl) (hr.weak hw)⟩
theorem Zj.weakRes {P : Program} [Gl P] {f : FuncId} {args : List D} {bx bx' : ZX} {d' : D}
  (h : Zj P f args bx fun d b => ∃ r, WS r ⟨[(0, d)], b⟩ ⟨[(0, d')], bx'⟩) : Zj P f args bx fun d b => d = d' ∧ b = bx' :=
 ⟨h.1, fun w S0 M0 ZT ρ hv hr => (h.2 w S0 M0 ZT ρ hv hr).mono fun e w' ⟨v, d, b, St', ρ', h1, ⟨r, h2⟩, h4, h6⟩ =>
  ⟨v, d', bx', St', ρ', h1, ⟨rfl, rfl⟩, h4, h6.weak h2⟩⟩
structure AWP (P : Program) [Gl P] (nt : Nat) (c : Code) (Q : Exit → AS → Prop) (S : AS) : Prop where
 run : ∀ (w0 : World) (M0 : Nat → Prop) (S0 : Zu) (ρ0 : Nat → Nat) (a : Act) (w : World), ZU P nt w0 M0 S0 ρ0 S a w → c.wp P (post P nt w0 M0 S0 ρ0 Q) a w
section
variable {P : Program} [Gl P] {nt : Nat} {c x y : Code} {Q Q' : Exit → AS → Prop} {S T : AS}
theorem AWP.weak (r : Nat → Nat) (hw : WS r S T) (h : AWP P nt c Q T) : AWP P nt c Q S :=
 ⟨fun w0 M0 S0 ρ0 a w ⟨h1, h2, St, ρ, h3, h4⟩ => h.run w0 M0 S0 ρ0 a w ⟨h1, h2, St, ρ, h3.weak hw, h4⟩⟩
theorem AWP.conv (hr : ∀ (w0 : World) (M0 : Nat → Prop) (S0 : Zu) (ρ0 : Nat → Nat) (a : Act) (w : World), ZU P nt w0 M0 S0 ρ0 S a w → ZU P nt w0 M0 S0 ρ0 T a w) (h : AWP P nt c Q T) : AWP P nt c Q S :=
 ⟨fun w0 M0 S0 ρ0 a w k => h.run w0 M0 S0 ρ0 a w (hr w0 M0 S0 ρ0 a w k)⟩
theorem AWP.thaw (i n k : Nat) {tk : Option (Nat × Nat)} {e : E} (hg : S.get i = .c tk e) (h : AWP P nt c Q (S.thaw i n k tk)) (hok : (Zgm k tk e && Nat.blt i nt && Nat.blt n CAP && !ZbX n) = true := by rfl) : AWP P nt c Q S := by
 simp only [Bool.and_eq_true, Nat.blt_eq, Bool.not_eq_true'] at hok
 exact h.conv fun w0 M0 S0 ρ0 a w hr => hr.thaw hok.1.1.2 hg hok.1.1.1 hok.1.2 hok.2
theorem AWP.thawB (m j n k : Nat) {cs : List Cell} (hm : S.box m = some cs) (hj : cs[j]? = some (none, .nils)) (h : AWP P nt c Q (S.thawB m j n k cs)) (hok : (ZbY cs && !(Nat.beq m n) && Nat.blt n CAP && !ZbX n) = true := by rfl) : AWP P nt c Q S := by
 simp only [Bool.and_eq_true, Nat.blt_eq, Bool.not_eq_true'] at hok
 exact h.conv fun w0 M0 S0 ρ0 a w hr => hr.thawB hm (fun e => by subst e; have := hok.1.1.2; simp at this) hok.1.1.1 hj hok.1.2 hok.2
theorem AWP.trunc (n k l : Nat) {rows rows' : List (List E)} (hb : S.box n = some [(none, .ob (2 * k) rows)]) (hr : rows.take l = rows') (h : AWP P nt c Q (S.setBox n [(none, .ob (2 * k) rows')])) : AWP P nt c Q S := by
 subst hr
 exact h.conv fun w0 M0 S0 ρ0 a w hr => hr.trunc hb
theorem AWP.force (h : Za3 S (AWP P nt c Q)) : AWP P nt c Q S := by rwa [ZbC] at h
theorem AWP.eqS (hS : S = T) (h : AWP P nt c Q T) : AWP P nt c Q S := hS ▸ h
theorem AWP.mono (h : AWP P nt c Q S) (hq : ∀ e T, Q e T → Q' e T) : AWP P nt c Q' S :=
 ⟨fun w0 M0 S0 ρ0 a w hr => wp_mono (h.run w0 M0 S0 ρ0 a w hr) fun e a' w' ⟨T, h1, h2⟩ => ⟨T, hq e T h1, h2⟩⟩
theorem AWP.seq (h : AWP P nt x (ZhG (AWP P nt y Q) Q) S) : AWP P nt (.seq x y) Q S :=
 ⟨fun w0 M0 S0 ρ0 a w hr => wp_seq (wp_mono (h.run w0 M0 S0 ρ0 a w hr) fun e a' w' ⟨T, hq, h'⟩ => by
  cases e with
  | normal => exact hq.run _ _ _ _ _ _ h'
  | exit id => exact ⟨T, hq, h'⟩
  | goto l => exact ⟨T, hq, h'⟩
  | ret => exact ⟨T, hq, h'⟩
  | panic ch => exact ⟨T, hq, h'⟩
  | outgrown => exact ⟨T, hq, h'⟩)⟩
structure AWL (P : Program) [Gl P] (nt : Nat) (c : Code) (Q : Exit → AS → Prop) (S : AS) : Prop where
 run : ∀ (w0 : World) (M0 : Nat → Prop) (S0 : Zu) (ρ0 : Nat → Nat) (a : Act) (w : World), ZU P nt w0 M0 S0 ρ0 S a w → ∀ (b : Frame) (k : List Item) (cs : List Frame),
  ∃ e a' w', post P nt w0 M0 S0 ρ0 Q e a' w' ∧ Arrives P (lone (b.at a (.code c :: .inLoop c :: k)) cs w) b k cs e a' w'
theorem AWL.weak (r : Nat → Nat) (hw : WS r S T) (h : AWL P nt c Q T) : AWL P nt c Q S :=
 ⟨fun w0 M0 S0 ρ0 a w ⟨h1, h2, St, ρ, h3, h4⟩ => h.run w0 M0 S0 ρ0 a w ⟨h1, h2, St, ρ, h3.weak hw, h4⟩⟩
theorem AWL.conv (hr : ∀ (w0 : World) (M0 : Nat → Prop) (S0 : Zu) (ρ0 : Nat → Nat) (a : Act) (w : World), ZU P nt w0 M0 S0 ρ0 S a w → ZU P nt w0 M0 S0 ρ0 T a w) (h : AWL P nt c Q T) : AWL P nt c Q S :=
 ⟨fun w0 M0 S0 ρ0 a w k => h.run w0 M0 S0 ρ0 a w (hr w0 M0 S0 ρ0 a w k)⟩
theorem AWL.thaw (i n k : Nat) {tk : Option (Nat × Nat)} {e : E} (hg : S.get i = .c tk e) (h : AWL P nt c Q (S.thaw i n k tk)) (hok : (Zgm k tk e && Nat.blt i nt && Nat.blt n CAP && !ZbX n) = true := by rfl) : AWL P nt c Q S := by
 simp only [Bool.and_eq_true, Nat.blt_eq, Bool.not_eq_true'] at hok
 exact h.conv fun w0 M0 S0 ρ0 a w hr => hr.thaw hok.1.1.2 hg hok.1.1.1 hok.1.2 hok.2
theorem AWL.thawB (m j n k : Nat) {cs : List Cell} (hm : S.box m = some cs) (hj : cs[j]? = some (none, .nils)) (h : AWL P nt c Q (S.thawB m j n k cs)) (hok : (ZbY cs && !(Nat.beq m n) && Nat.blt n CAP && !ZbX n) = true := by rfl) : AWL P nt c Q S := by
 simp only [Bool.and_eq_true, Nat.blt_eq, Bool.not_eq_true'] at hok
 exact h.conv fun w0 M0 S0 ρ0 a w hr => hr.thawB hm (fun e => by subst e; have := hok.1.1.2; simp at this) hok.1.1.1 hj hok.1.2 hok.2
theorem AWL.force (h : Za3 S (AWL P nt c Q)) : AWL P nt c Q S := by rwa [ZbC] at h
theorem AWP.loop (h : AWL P nt c Q S) : AWP P nt (.loop c) Q S := by
 refine ⟨fun w0 M0 S0 ρ0 a w hr b k cs => ?_⟩
 obtain ⟨e, a', w', hq, harr⟩ := h.run w0 M0 S0 ρ0 a w hr b k cs
 exact ⟨e, a', w', hq, .of_steps (.one step_loop) harr⟩
theorem AWL.step (h : AWP P nt c (ZhG (AWL P nt c Q) Q) S) : AWL P nt c Q S := by
 refine ⟨fun w0 M0 S0 ρ0 a w hr b k cs => ?_⟩
 obtain ⟨e, a₁, w₁, ⟨S₁, hq, hr₁⟩, harr⟩ := h.run w0 M0 S0 ρ0 a w hr b (.inLoop c :: k) cs
 cases e with
 | normal =>
  obtain ⟨e₂, a₂, w₂, hq₂, harr₂⟩ := hq.run w0 M0 S0 ρ0 a₁ w₁ hr₁ b k cs
  exact ⟨e₂, a₂, w₂, hq₂, .of_steps (Steps.trans harr (.one step_inLoop)) harr₂⟩
 | exit id => exact ⟨_, a₁, w₁, ⟨S₁, hq, hr₁⟩, .pass (x := .inLoop c) rfl (fun _ _ => .inl (by simp)) harr⟩
 | goto l => exact ⟨_, a₁, w₁, ⟨S₁, hq, hr₁⟩, .pass (x := .inLoop c) rfl (fun _ _ => .inl (by simp)) harr⟩
 | ret => exact ⟨_, a₁, w₁, ⟨S₁, hq, hr₁⟩, .pass (x := .inLoop c) rfl (fun _ _ => .inl (by simp)) harr⟩
 | panic ch => exact ⟨_, a₁, w₁, ⟨S₁, hq, hr₁⟩, .pass (x := .inLoop c) rfl (fun _ _ => .inl (by simp)) harr⟩
 | outgrown => exact ⟨_, a₁, w₁, ⟨S₁, hq, hr₁⟩, .pass (x := .inLoop c) rfl (fun _ _ => .inl (by simp)) harr⟩
theorem AWP.block {id : Nat} (h : AWP P nt c (Zhy id Q) S) : AWP P nt (.block id c) Q S :=
 ⟨fun w0 M0 S0 ρ0 a w hr => wp_block (wp_mono (h.run w0 M0 S0 ρ0 a w hr) fun e a' w' ⟨S', hq, h'⟩ => by
  cases e with
  | exit i =>
   simp only [Exit.inBlock, Zhy] at hq ⊢
   by_cases hi : i = id
   ·rw [if_pos hi] at hq; rw [if_pos hi]; exact ⟨S', hq, h'⟩
   ·rw [if_neg hi] at hq; rw [if_neg hi]; exact ⟨S', hq, h'⟩
  | normal => exact ⟨S', hq, h'⟩
  | goto l => exact ⟨S', hq, h'⟩
  | ret => exact ⟨S', hq, h'⟩
  | panic ch => exact ⟨S', hq, h'⟩
  | outgrown => exact ⟨S', hq, h'⟩)⟩
def Zma (Q : Exit → AS → Prop) : Exit → AS → Prop
 | .goto _, _ => False
 | .normal, S => Q .normal S
 | .exit id, S => Q (.exit id) S
 | .ret, S => Q .ret S
 | .panic ch, S => Q (.panic ch) S
 | .outgrown, S => Q .outgrown S
theorem AWP.scope (h : AWP P nt c (Zma Q) S) : AWP P nt (.scope c) Q S :=
 ⟨fun w0 M0 S0 ρ0 a w hr => wp_scope_straight (wp_mono (h.run w0 M0 S0 ρ0 a w hr) fun e a' w' ⟨T, hq, h'⟩ => by
  cases e with
  | goto l => exact hq.elim
  | normal => exact ⟨T, hq, h'⟩
  | exit id => exact ⟨T, hq, h'⟩
  | ret => exact ⟨T, hq, h'⟩
  | panic ch => exact ⟨T, hq, h'⟩
  | outgrown => exact ⟨T, hq, h'⟩)⟩
theorem AWP.cut (M : AS → Prop) (h : AWP P nt x (ZhG M Q) S) (k : ∀ T, M T → AWP P nt y Q T) : AWP P nt (.seq x y) Q S :=
 AWP.seq (h.mono fun e T hq => by cases e <;> first | exact k T hq | exact hq)
def ZqG (M : AS → Prop) : Exit → AS → Prop
 | .normal, T => M T
 | _, _ => False
theorem AWP.cutN (M : AS → Prop) (h : AWP P nt x (ZqG M) S) (k : ∀ T, M T → Q .normal T) : AWP P nt x Q S :=
 h.mono fun e T hq => by cases e <;> first | exact k T hq | exact hq.elim
def node (Dr : Zjz) (P : Program) [Gl P] (L : Tab) (nt : Nat) : Code → (Exit → AS → Prop) → AS → Prop
 | .skip, Q, S => Q .normal S
 | .label _, Q, S => Q .normal S
 | .region _ ops draw, Q, S => if draw then Dr P L nt ops S (Q .normal) else Zf0 P L nt ops ops.toList S (Q .normal)
 | .seq x y, Q, S => node Dr P L nt x (ZhG (AWP P nt y Q) Q) S
 | .cond c x y, Q, S =>
  match S.ev c with
  | .c _ (.v (.bool b)) => ZcN b (AWP P nt x Q S) (AWP P nt y Q S)
  | _ => False
 | .block id c, Q, S => node Dr P L nt c (Zhy id Q) S
 | .loop c, Q, S => AWL P nt c Q S
 | .exit id, Q, S => Q (.exit id) S
 | .ret, Q, S => Q .ret S
 | _, _, _ => False
theorem AWP.node {Dr : Zjz} {L : Tab} (hL : TOk P L) (hnt : nt ≤ EXT) (hD : Zgc P L nt Dr) : ∀ (c : Code) (Q : Exit → AS → Prop) (S : AS), Am.node Dr P L nt c Q S → AWP P nt c Q S
 | .skip, Q, S, hk => ⟨fun w0 M0 S0 ρ0 a w h => wp_skip ⟨S, hk, h⟩⟩
 | .label l, Q, S, hk => ⟨fun w0 M0 S0 ρ0 a w h => wp_label ⟨S, hk, h⟩⟩
 | .exit id, Q, S, hk => ⟨fun w0 M0 S0 ρ0 a w h => wp_exit ⟨S, hk, h⟩⟩
 | .ret, Q, S, hk => ⟨fun w0 M0 S0 ρ0 a w h => wp_ret ⟨S, hk, h⟩⟩
 | .region id ops draw, Q, S, hk => ⟨fun w0 M0 S0 ρ0 a w h => by
   have : awp Dr P L nt (.region id ops draw) Q S := hk
   exact Zcs hL hnt hD _ Q S a w this h⟩
 | .seq x y, Q, S, hk => AWP.seq (AWP.node hL hnt hD x _ S hk)
 | .cond c x y, Q, S, hk => ⟨fun w0 M0 S0 ρ0 a w h => by
   simp only [Am.node] at hk
   split at hk
   ·rename_i tk b hc
    have hv : a.eval c = .bool b := by
     obtain ⟨_, _, St, ρ, h3, _⟩ := h
     have := ZE h3 c
     rw [hc] at this
     exact (Za2 (d := .c tk (.v (.bool b))) this rfl).1
    refine wp_cond hv ?_
    cases b with
    | true => exact AWP.run hk _ _ _ _ _ _ h
    | false => exact AWP.run hk _ _ _ _ _ _ h
   ·exact hk.elim⟩
 | .block id c, Q, S, hk => AWP.block (AWP.node hL hnt hD c _ S hk)
 | .loop c, Q, S, hk => AWP.loop hk
 | .rangeFunc .., Q, S, hk => hk.elim
 | .scope _, Q, S, hk => hk.elim
 | .goto _, Q, S, hk => hk.elim
 | .refuse _, Q, S, hk => hk.elim
end
def Code.sub : Code → List Nat → Code
 | c, [] => c
 | .seq x y, i :: p => match i with | 0 => Code.sub x p | _ => Code.sub y p
 | .cond _ x y, i :: p => match i with | 0 => Code.sub x p | _ => Code.sub y p
 | .block _ c, _ :: p => Code.sub c p
 | .loop c, _ :: p => Code.sub c p
 | .scope c, _ :: p => Code.sub c p
 | c, _ => c
def Code.cont (P : Program) [Gl P] (nt : Nat) : Code → List Nat → (Exit → AS → Prop) → (Exit → AS → Prop)
 | _, [], Q => Q
 | .seq x y, i :: p, Q => match i with | 0 => Code.cont P nt x p (ZhG (AWP P nt y Q) Q) | _ => Code.cont P nt y p Q
 | .cond _ x y, i :: p, Q => match i with | 0 => Code.cont P nt x p Q | _ => Code.cont P nt y p Q
 | .block id c, _ :: p, Q => Code.cont P nt c p (Zhy id Q)
 | .loop c, _ :: p, Q => Code.cont P nt c p (ZhG (AWL P nt c Q) Q)
 | .scope c, _ :: p, Q => Code.cont P nt c p (Zma Q)
 | _, _, Q => Q

def ZaF (p : Prop) [Decidable p] : Option Unit := if p then some () else none
def ixI {α : Type} (l : List α) (i : Int) : Option α := if 0 ≤ i then l[i.toNat]? else none
def btI (s : ByteArray) (i : Int) : Option UInt8 := if 0 ≤ i then s[i.toNat]? else none
def slS (s : ByteArray) (l h : Int) : Option ByteArray := if 0 ≤ l ∧ l ≤ h ∧ h ≤ s.size then some (s.extract l.toNat h.toNat) else none
def slL {α : Type} (s : List α) (l h : Int) : Option (List α) := if 0 ≤ l ∧ l ≤ h ∧ h ≤ s.length then some ((s.take h.toNat).drop l.toNat) else none
theorem Zbq {xs bs all : List Nat} {U S : AS} (h1 : Zln S xs = Zln U xs) (h2 : Zlk S bs = Zlk U bs) (h3 : (Zm5 all S.tmps && ZmU all S.boxes) = true) : ck xs bs all U S := ⟨h1, h2, h3⟩
def ZkS {α β : Type} [BEq α] (k : α) : List (α × β) → Option β
 | [] => none
 | p :: m => if (k == p.1) = true then some p.2 else ZkS k m
def Zph {α β : Type} [BEq α] (m : List (α × β)) (z : β) (k : α) : Option (β × Bool) := match ZkS k m with | some v => some (v, true) | none => some (z, false)
def ZoX {α β : Type} [BEq α] : List (α × β) → α → β → List (α × β)
 | [], k, v => [(k, v)]
 | p :: m, k, v => if (k == p.1) = true then (k, v) :: m else p :: ZoX m k v
def Zjv {α β : Type} (ek : α → List E) (ev : β → List E) (p : α × β) : List E := ek p.1 ++ ev p.2
structure Zee {α : Type} [BEq α] (ek : α → List E) : Prop where
 eq : ∀ a b, Zcz (ek a) (ek b) = some (a == b)
 one : ∀ a, (ek a).length = 1
theorem ZoY {k : IntKind} : Zee (fun x : Int => [E.v (.int k x)]) := ⟨fun a b => by simp [Zcz], fun _ => rfl⟩
theorem Zl6 : Zee (fun x : ByteArray => [E.v (.string x)]) := ⟨fun a b => by simp [Zcz], fun _ => rfl⟩
theorem key_bool : Zee (fun x : Bool => [E.v (.bool x)]) := ⟨fun a b => by simp [Zcz], fun _ => rfl⟩
theorem ZkX {α β : Type} [BEq α] {ek : α → List E} (hk : Zee ek) {ev : β → List E} (p : α × β) : (Zjv ek ev p).take 1 = ek p.1 ∧ (Zjv ek ev p).drop 1 = ev p.2 := by
 unfold Zjv
 rw [← hk.one p.1]
 simp
theorem Zjg {α β : Type} [BEq α] {ek : α → List E} (hk : Zee ek) {ev : β → List E} (k : α) : ∀ m : List (α × β), Zd9 1 (ek k) (m.map (Zjv ek ev)) = some ((ZkS k m).map ev)
 | [] => rfl
 | p :: m => by
  obtain ⟨h1, h2⟩ := ZkX hk (ev := ev) p
  simp only [List.map_cons, Zd9, h1, h2, hk.eq, ZkS]
  cases hb : k == p.1 with
  | true => simp
  | false => simpa using Zjg hk k m
theorem Zjf {α β : Type} [BEq α] {ek : α → List E} (hk : Zee ek) {ev : β → List E} (k : α) (v : β) : ∀ m : List (α × β), ZfJ 1 (ek k) (ev v) (m.map (Zjv ek ev)) = some ((ZoX m k v).map (Zjv ek ev))
 | [] => rfl
 | p :: m => by
  obtain ⟨h1, h2⟩ := ZkX hk (ev := ev) p
  simp only [List.map_cons, ZfJ, h1, hk.eq, ZoX]
  cases hb : k == p.1 with
  | true => simp [Zjv]
  | false => simp [Zjf hk k v m]
theorem map_put {α β : Type} [BEq α] {m : List (α × β)} {k : α} {v : β} {ek : α → List E} (hk : Zee ek) {ev : β → List E} {cells : List E} (hw : WL cells (ev v)) {K : List (List E) → Prop} (h : K ((ZoX m k v).map (Zjv ek ev))) :
  ∃ val' rows', WL cells val' ∧ ZfJ 1 (ek k) val' (m.map (Zjv ek ev)) = some rows' ∧ K rows' := ⟨ev v, _, hw, Zjf hk k v m, h⟩
theorem map_look {α β : Type} [BEq α] {m : List (α × β)} {k : α} {ek : α → List E} (hk : Zee ek) {ev : β → List E} {z : β} {r : β × Bool} (h : Zph m z k = some r) {cells : List E} (hv : ev r.1 = cells) {n : Nat} (hn : ∀ x, (ev x).length = n) {zc : List E} {zero : Option (List E)} (hz : zero = some zc) (hzl : zc.length = n) (hzw : WL zc (ev z))
  {K : Bool → List E → Prop} (hK : K r.2 cells) :
  ∃ cells ok cells', Zd9 1 (ek k) (m.map (Zjv ek ev)) = some (bif ok then some cells else none) ∧ (ok = false → zero = some cells) ∧ cells.length = n ∧ WL cells cells' ∧ K ok cells' := by
 unfold Zph at h
 cases hf : ZkS k m with
 | some v =>
  rw [hf] at h
  injection h with h
  subst h
  exact ⟨ev v, true, cells, by rw [Zjg hk, hf]; rfl, fun h => (by cases h), hn v, (by rw [← hv]; exact WL.refl _), hK⟩
 | none =>
  rw [hf] at h
  injection h with h
  subst h
  exact ⟨zc, false, cells, by rw [Zjg hk, hf]; rfl, fun _ => hz, hzl, (by rw [← hv]; exact hzw), hK⟩
theorem bind_some {α β : Type} {a : Option α} {f : α → Option β} {r : β} (h : (a >>= f) = some r) : ∃ x, a = some x ∧ f x = some r := by
 cases a with
 | none => cases h
 | some x => exact ⟨x, rfl, h⟩
theorem ZH {p : Prop} [Decidable p] {β : Type} {f : Unit → Option β} {r : β} (h : (ZaF p >>= f) = some r) : p ∧ f () = some r := by
 unfold ZaF at h
 split at h
 ·rename_i hp; exact ⟨hp, h⟩
 ·cases h
theorem Zki {α β : Type} {l : List α} {i : Int} {f : α → Option β} {r : β} (h : (ixI l i >>= f) = some r) : ∃ x, 0 ≤ i ∧ l[i.toNat]? = some x ∧ f x = some r := by
 obtain ⟨x, hx, hf⟩ := bind_some h
 unfold ixI at hx
 split at hx
 ·exact ⟨x, by assumption, hx, hf⟩
 ·cases hx
theorem Zc5 {β : Type} {s : ByteArray} {i : Int} {f : UInt8 → Option β} {r : β} (h : (btI s i >>= f) = some r) : ∃ x, 0 ≤ i ∧ s[i.toNat]? = some x ∧ f x = some r := by
 obtain ⟨x, hx, hf⟩ := bind_some h
 unfold btI at hx
 split at hx
 ·exact ⟨x, by assumption, hx, hf⟩
 ·cases hx
theorem slS_some {β : Type} {s : ByteArray} {l h : Int} {f : ByteArray → Option β} {r : β} (hh : (slS s l h >>= f) = some r) : ∃ t, 0 ≤ l ∧ l ≤ h ∧ h ≤ ((s.size : Nat) : Int) ∧ t = s.extract l.toNat h.toNat ∧ f t = some r := by
 obtain ⟨x, hx, hf⟩ := bind_some hh
 unfold slS at hx
 split at hx
 ·rename_i hc; injection hx with hx; exact ⟨x, hc.1, hc.2.1, hc.2.2, hx.symm, hf⟩
 ·cases hx
theorem Zog {α β : Type} {s : List α} {l h : Int} {f : List α → Option β} {r : β} (hh : (slL s l h >>= f) = some r) : ∃ t, 0 ≤ l ∧ l ≤ h ∧ h ≤ ((s.length : Nat) : Int) ∧ t = (s.take h.toNat).drop l.toNat ∧ f t = some r := by
 obtain ⟨x, hx, hf⟩ := bind_some hh
 unfold slL at hx
 split at hx
 ·rename_i hc; injection hx with hx; exact ⟨x, hc.1, hc.2.1, hc.2.2, hx.symm, hf⟩
 ·cases hx
theorem Zg {α : Type} {x r : α} (h : some x = some r) : x = r := Option.some.inj h
theorem lt_of_dec {k n : Nat} (h : decide (((k : Nat) : Int) < ((n : Nat) : Int)) = true) : k < n := by simpa using h
theorem ZmP {b : Bool} {α : Type} {x y r : α} (hb : b = true) (h : (if b = true then x else y) = r) : x = r := by rwa [if_pos hb] at h
theorem ZmR {b : Bool} {α : Type} {x y r : α} (hb : b = false) (h : (if b = true then x else y) = r) : y = r := by subst hb; simpa using h
theorem Zp {b : Bool} {A B : Prop} {α : Type} {x y : Option α} {r : α} (h : (if b = true then x else y) = some r) (h1 : b = true → x = some r → A) (h2 : b = false → y = some r → B) : ZcN b A B := by
 cases b
 ·exact h2 rfl (by simpa using h)
 ·exact h1 rfl (by simpa using h)
theorem branchG_hF {b : Bool} {A B : Prop} {α : Type} {x y : Option α} {r : α} (want : Bool) (h : (if b = true then x else y) = some r) (h1 : b = true → x = some r → (match want with | true => A | false => B)) (h2 : b = false → y = some r → (match want with | true => B | false => A)) : Zc3 b want A B := by
 cases b <;> cases want
 ·exact h2 rfl (by simpa using h)
 ·exact h2 rfl (by simpa using h)
 ·exact h1 rfl (by simpa using h)
 ·exact h1 rfl (by simpa using h)
theorem Zh {b : Bool} {A B : Prop} (want : Bool) (h1 : b = true → (match want with | true => A | false => B)) (h2 : b = false → (match want with | true => B | false => A)) : Zc3 b want A B := by
 cases b <;> cases want
 ·exact h2 rfl
 ·exact h2 rfl
 ·exact h1 rfl
 ·exact h1 rfl
theorem Z6 {α : Type} {l pre post : List α} {k : Nat} {A B : Prop} (h : l = pre ++ post) (hk : k = pre.length) (h1 : ∀ x post', post = x :: post' → l[k]? = some x → k < l.length → A) (h2 : post = [] → B) :
  ZcN (decide (((k : Nat) : Int) < ((l.length : Nat) : Int))) A B := by
 subst hk
 cases post with
 | nil =>
  have : decide (((pre.length : Nat) : Int) < ((l.length : Nat) : Int)) = false := by subst h; simp
  rw [this]; exact h2 rfl
 | cons x post' =>
  have hlt : pre.length < l.length := by subst h; simp
  have : decide (((pre.length : Nat) : Int) < ((l.length : Nat) : Int)) = true := by simpa using hlt
  rw [this]; exact h1 x post' rfl (by subst h; simp) hlt
theorem ZaB {α : Type} {f : α → List E} {n : Nat} (l : List α) (h : ∀ x, (f x).length = n) : ∀ row ∈ l.map f, row.length = n := by
 intro row hr
 obtain ⟨x, _, rfl⟩ := List.mem_map.1 hr
 exact h x
theorem ZnJ {n : Nat} : ∀ row ∈ ([] : List (List E)), row.length = n := fun _ h => absurd h List.not_mem_nil
theorem rows_one {n : Nat} {r : List E} (h : r.length = n) : ∀ row ∈ [r], row.length = n := fun row hr => by simp at hr; subst hr; exact h
theorem rows_cons {n : Nat} {r : List E} {l : List (List E)} (h : r.length = n) (k : ∀ row ∈ l, row.length = n) : ∀ row ∈ r :: l, row.length = n := fun row hr => by
 rcases List.mem_cons.1 hr with rfl | hr
 ·exact h
 ·exact k row hr
theorem ZaD {α : Type} {f : α → List E} {l : List α} {k : Nat} {x : α} {row : List E} (hc : f x = row) (h : l[k]? = some x) : (l.map f)[((k : Nat) : Int).toNat]? = some row := by
 show (l.map f)[k]? = some row
 rw [List.getElem?_map, h, Option.map_some, hc]
theorem Zja {α : Type} {f : α → List E} {l : List α} {i : Int} {x : α} {row : List E} (hc : f x = row) (h : l[i.toNat]? = some x) : (l.map f)[i.toNat]? = some row := by
 rw [List.getElem?_map, h, Option.map_some, hc]
theorem Zau {n k : Nat} (h : n ≤ maxLen) (hk : k < n) : IntKind.i64.wrap (((k : Nat) : Int) + 1) = (((k + 1 : Nat) : Nat) : Int) := by
 have e : IntKind.i64.wrap ((k : Int) + 1) = (k : Int) + 1 := by
  exact IntWalk.i64_in ((k : Int) + 1) ⟨by omega, by unfold maxLen at h; omega⟩
 rw [e]; rfl
theorem ZiU {k : Nat} (hk : k + 1 ≤ 9223372036854775807) : IntKind.i64.wrap (((k : Nat) : Int) + 1) = (((k + 1 : Nat) : Nat) : Int) := by
 have e : IntKind.i64.wrap ((k : Int) + 1) = (k : Int) + 1 := by
  exact IntWalk.i64_in ((k : Int) + 1) ⟨by omega, by omega⟩
 rw [e]; rfl
theorem Zl4 {α : Type} {g : α → List E} {s t : List α} {l h : Int} (ht : t = (s.take h.toNat).drop l.toNat) : ((s.map g).take h.toNat).drop l.toNat = t.map g := by
 rw [ht, List.map_drop, List.map_take]
def rn (l : List (Nat × Nat)) (n : Nat) : Nat := (look l n).getD n
section
variable {r : Nat → Nat} {S T : AS} {e e' : E} {tk : Option (Nat × Nat)}
theorem WE.of_eq (h : e = e') : WE e e' := h ▸ .refl e
theorem Zq0 {x y : Bool} (h : x = y) : WE (.v (.bool x)) (.v (.bool y)) := h ▸ .refl _
theorem Zd2 {k : IntKind} {x y : Int} (h : x = y) : WE (.v (.int k x)) (.v (.int k y)) := h ▸ .refl _
theorem Zd : WTs r S [] := trivial
theorem Za {i : Nat} {d : D} {l : List (Nat × D)} (h : WD r (S.get i) d) (k : WTs r S l) : WTs r S ((i, d) :: l) := ⟨h, k⟩
theorem wd_bot {d : D} : WD r d .bot := by cases d <;> first | trivial | (rename_i tk _; cases tk <;> trivial)
theorem Zy (k : WE e e') : WD r (.c tk e) (.c none e') := ⟨by cases tk <;> trivial, .inl k⟩
theorem Zaf {s t q : Nat} (h : r s = t) (k : WE e e') : WD r (.c (some (s, q)) e) (.c (some (t, q)) e') := ⟨⟨h, rfl⟩, .inl k⟩
theorem Zl9 {t q : Nat} : WD r (.c none .nils) (.c (some (t, q)) (.sl [])) := ⟨trivial, .inl .nil⟩
theorem wd_nilt {s t q : Nat} (h : r s = t) : WD r (.c (some (s, q)) .nils) (.c (some (t, q)) (.sl [])) := ⟨⟨h, rfl⟩, .inl .nil⟩
theorem Zo {a b : List E} (h : WL a b) : WD r (.agg a) (.agg b) := h
theorem wd_ref {a b : List E} (h : WL a b) : WD r (.ref a) (.ref b) := h
theorem ZiJ {a b : List X} (h : WXs a b) : WD r (.tup a) (.tup b) := h
theorem Zpz {n o : Nat} : WD r (.ptr n o) (.ptr n o) := ⟨rfl, rfl⟩
theorem Zm : WL [] [] := trivial
theorem ZbH {x y : E} {xs ys : List E} (h : WE x y) (k : WL xs ys) : WL (x :: xs) (y :: ys) := ⟨h, k⟩
theorem ZiN : WXs [] [] := trivial
theorem Zjs {xs ys : List X} (h : WE e e') (k : WXs xs ys) : WXs (.c e :: xs) (.c e' :: ys) := ⟨h, k⟩
theorem wx_agg {a b : List E} {xs ys : List X} (h : WL a b) (k : WXs xs ys) : WXs (.agg a :: xs) (.agg b :: ys) := ⟨h, k⟩
theorem Zk : WCs r [] [] := trivial
theorem ZrD {xs ys : List Cell} (h : WE e e') (k : WCs r xs ys) : WCs r ((tk, e) :: xs) ((none, e') :: ys) := ⟨⟨by cases tk <;> trivial, .inl h⟩, k⟩
theorem ZlV {s t q : Nat} {xs ys : List Cell} (h0 : r s = t) (h : WE e e') (k : WCs r xs ys) : WCs r ((some (s, q), e) :: xs) ((some (t, q), e') :: ys) := ⟨⟨⟨h0, rfl⟩, .inl h⟩, k⟩
theorem Zm8 {t q : Nat} {xs ys : List Cell} (k : WCs r xs ys) : WCs r ((none, .nils) :: xs) ((some (t, q), .sl []) :: ys) := ⟨⟨trivial, .inl .nil⟩, k⟩
theorem Zc : WBs r S [] := trivial
theorem Zi {n : Nat} {ds cs : List Cell} {l : ZX} (h0 : S.box n = some ds) (h : WCs r ds cs) (k : WBs r S l) : WBs r S ((n, cs) :: l) := ⟨by unfold WB; rw [h0]; exact h, k⟩
theorem ZC {α : Type} {f : α → List E} : WE (.sl []) (.sl (([] : List α).map f)) := .refl _
theorem Zaz {α : Type} {f : α → List E} {row : List E} {rows : List (List E)} {x : α} {xs : List α} (h : WL row (f x)) (k : WE (.sl rows) (.sl (xs.map f))) : WE (.sl (row :: rows)) (.sl ((x :: xs).map f)) := by
 have := WE.app (WE.row h) k
 exact this
theorem ZhE {row a b : List E} (h : b = a) (k : WL row a) : WL row b := h ▸ k
end
def Zde (d' : D) (bx' : ZX) (d : D) (b : ZX) : Prop := ∃ r, WS r ⟨[(0, d)], b⟩ ⟨[(0, d')], bx'⟩
def ZF (fn : Func) : Code := fn.body.getD .skip
theorem enter {P : Program} [Gl P] {L : Tab} (hL : TOk P L) {f : FuncId} {fn : Func} (hf : P.funcs[f]? = some fn) (hb : fn.body.isSome = true) (hname : (fn.name == "runtime.NumGoroutine") = false)
  {args : List D} {bx bx' : ZX} {d' : D} (hargs : args.length ≤ fn.ntmps)
  (hk : AWP P fn.ntmps (ZF fn) (ZcP L fn.results (Zde d' bx')) ⟨ZaT 0 args, bx⟩) : Zj P f args bx fun d b => d = d' ∧ b = bx' := by
 refine Zj.weakRes ?_
 obtain ⟨c, hc⟩ := Option.isSome_iff_exists.1 hb
 have hbo : ZF fn = c := by unfold ZF; rw [hc]; rfl
 rw [hbo] at hk
 exact Zme hL hf hc hname hargs hk.run
def Za8 (G G' : Prop) : Prop := G' → G
theorem Za8.side {A B G' : Prop} (a : A) (r : Za8 B G') : Za8 (A ∧ B) G' := fun g => ⟨a, r g⟩
theorem Za8.done {G : Prop} : Za8 G G := id
theorem Za8.free {α β : Type} {A B C : α → β → Prop} {G' : Prop} {v : α} {s : β} (a : A v s) (b : B v s) (c : Za8 (C v s) G') : Za8 (∃ v s, A v s ∧ B v s ∧ C v s) G' := fun g => ⟨v, s, a, b, c g⟩
theorem st {G G' : Prop} (h : G') (s : Za8 G G' := by
  (repeat (first | ((conv => (arg 1; whnf)); (with_reducible apply Za8.side); (focus (first | exact Eq.refl _ | exact trivial | (with_reducible assumption) | (with_reducible exact Int.natCast_nonneg _) | exact Nat.le_of_ble_eq_true (Eq.refl true) | exact Zbq (Eq.refl _) (Eq.refl _) (Eq.refl _) | decide)))))
  (conv => (arg 1; whnf))
  exact Za8.done) : G := s h
theorem sr {A G G' : Prop} (e : A) (h : G') (s : A → Za8 G G' := by
  intro e
  (repeat (first | ((conv => (arg 1; whnf)); (with_reducible apply Za8.side); (focus (first | exact Eq.refl _ | exact trivial | (with_reducible assumption) | (with_reducible exact Int.natCast_nonneg _) | exact Nat.le_of_ble_eq_true (Eq.refl true) | exact Zbq (Eq.refl _) (Eq.refl _) (Eq.refl _) | decide))) | ((conv => (arg 1; whnf)); rw [e])))
  (conv => (arg 1; whnf))
  exact Za8.done) : G := s e h
theorem dp {G G' : Prop} (h : G') (s : Za8 G G' := by
  (repeat (first | ((conv => (arg 1; whnf)); (with_reducible apply Za8.side); (focus (first | exact Eq.refl _ | exact trivial | (with_reducible assumption) | (with_reducible exact Int.natCast_nonneg _) | exact Nat.le_of_ble_eq_true (Eq.refl true) | exact Zbq (Eq.refl _) (Eq.refl _) (Eq.refl _) | decide)))))
  (conv => (arg 1; whnf))
  with_reducible apply Za8.free
  (focus (((repeat (first | ((conv => whnf); (with_reducible refine And.intro ?_ ?_); (focus (first | exact Eq.refl _ | exact trivial | (with_reducible assumption) | (with_reducible exact Int.natCast_nonneg _) | exact Nat.le_of_ble_eq_true (Eq.refl true) | exact Zbq (Eq.refl _) (Eq.refl _) (Eq.refl _) | decide))))); (conv => whnf)) <;> (exact rfl)))
  (focus exact rfl)
  (conv => (arg 1; whnf))
  exact Za8.done) : G := s h
theorem dr {A G G' : Prop} (e : A) (h : G') (s : A → Za8 G G' := by
  intro e
  (repeat (first | ((conv => (arg 1; whnf)); (with_reducible apply Za8.side); (focus (first | exact Eq.refl _ | exact trivial | (with_reducible assumption) | (with_reducible exact Int.natCast_nonneg _) | exact Nat.le_of_ble_eq_true (Eq.refl true) | exact Zbq (Eq.refl _) (Eq.refl _) (Eq.refl _) | decide)))))
  (conv => (arg 1; whnf))
  with_reducible apply Za8.free
  (focus ((((repeat (first | ((conv => whnf); (with_reducible refine And.intro ?_ ?_); (focus (first | exact Eq.refl _ | exact trivial | (with_reducible assumption) | (with_reducible exact Int.natCast_nonneg _) | exact Nat.le_of_ble_eq_true (Eq.refl true) | exact Zbq (Eq.refl _) (Eq.refl _) (Eq.refl _) | decide))))); (conv => whnf)) <;> (rw [e]) <;> ((repeat (first | ((conv => whnf); (with_reducible refine And.intro ?_ ?_); (focus (first | exact Eq.refl _ | exact trivial | (with_reducible assumption) | (with_reducible exact Int.natCast_nonneg _) | exact Nat.le_of_ble_eq_true (Eq.refl true) | exact Zbq (Eq.refl _) (Eq.refl _) (Eq.refl _) | decide))))); (conv => whnf)) <;> (exact rfl))))
  (focus exact rfl)
  (conv => (arg 1; whnf))
  exact Za8.done) : G := s e h
theorem dl {G G' : Prop} (h : G') (s : Za8 G G' := by
  (repeat (first | ((conv => (arg 1; whnf)); (with_reducible apply Za8.side); (focus (first | exact Eq.refl _ | exact trivial | (with_reducible assumption) | (with_reducible exact Int.natCast_nonneg _) | exact Nat.le_of_ble_eq_true (Eq.refl true) | exact Zbq (Eq.refl _) (Eq.refl _) (Eq.refl _) | decide)))))
  (conv => (arg 1; whnf))
  with_reducible apply Za8.free
  (focus ((((repeat (first | ((conv => whnf); (with_reducible refine And.intro ?_ ?_); (focus (first | exact Eq.refl _ | exact trivial | (with_reducible assumption) | (with_reducible exact Int.natCast_nonneg _) | exact Nat.le_of_ble_eq_true (Eq.refl true) | exact Zbq (Eq.refl _) (Eq.refl _) (Eq.refl _) | decide))))); (conv => whnf)) <;> (intro hlen0; (try rw [List.length_map])) <;> ((repeat (first | ((conv => whnf); (with_reducible refine And.intro ?_ ?_); (focus (first | exact Eq.refl _ | exact trivial | (with_reducible assumption) | (with_reducible exact Int.natCast_nonneg _) | exact Nat.le_of_ble_eq_true (Eq.refl true) | exact Zbq (Eq.refl _) (Eq.refl _) (Eq.refl _) | decide))))); (conv => whnf)) <;> (exact rfl))))
  (focus exact rfl)
  (conv => (arg 1; whnf))
  exact Za8.done) : G := s h
theorem da {A G G' : Prop} (e : A) (h : G') (s : A → Za8 G G' := by
  intro e
  (repeat (first | ((conv => (arg 1; whnf)); (with_reducible apply Za8.side); (focus (first | exact Eq.refl _ | exact trivial | (with_reducible assumption) | (with_reducible exact Int.natCast_nonneg _) | exact Nat.le_of_ble_eq_true (Eq.refl true) | exact Zbq (Eq.refl _) (Eq.refl _) (Eq.refl _) | decide)))))
  (conv => (arg 1; whnf))
  with_reducible apply Za8.free
  (focus ((((repeat (first | ((conv => whnf); (with_reducible refine And.intro ?_ ?_); (focus (first | exact Eq.refl _ | exact trivial | (with_reducible assumption) | (with_reducible exact Int.natCast_nonneg _) | exact Nat.le_of_ble_eq_true (Eq.refl true) | exact Zbq (Eq.refl _) (Eq.refl _) (Eq.refl _) | decide))))); (conv => whnf)) <;> (refine And.intro e ?_) <;> ((repeat (first | ((conv => whnf); (with_reducible refine And.intro ?_ ?_); (focus (first | exact Eq.refl _ | exact trivial | (with_reducible assumption) | (with_reducible exact Int.natCast_nonneg _) | exact Nat.le_of_ble_eq_true (Eq.refl true) | exact Zbq (Eq.refl _) (Eq.refl _) (Eq.refl _) | decide))))); (conv => whnf)) <;> (exact rfl))))
  (focus exact rfl)
  (conv => (arg 1; whnf))
  exact Za8.done) : G := s e h
theorem de {A G G' : Prop} (e : A) (h : G') (s : A → Za8 G G' := by
  intro e
  (repeat (first | ((conv => (arg 1; whnf)); (with_reducible apply Za8.side); (focus (first | exact Eq.refl _ | exact trivial | (with_reducible assumption) | (with_reducible exact Int.natCast_nonneg _) | exact Nat.le_of_ble_eq_true (Eq.refl true) | exact Zbq (Eq.refl _) (Eq.refl _) (Eq.refl _) | decide)))))
  (conv => (arg 1; whnf))
  with_reducible apply Za8.free
  (focus ((((repeat (first | ((conv => whnf); (with_reducible refine And.intro ?_ ?_); (focus (first | exact Eq.refl _ | exact trivial | (with_reducible assumption) | (with_reducible exact Int.natCast_nonneg _) | exact Nat.le_of_ble_eq_true (Eq.refl true) | exact Zbq (Eq.refl _) (Eq.refl _) (Eq.refl _) | decide))))); (conv => whnf)) <;> (refine Exists.intro _ (And.intro e ?_)) <;> ((repeat (first | ((conv => whnf); (with_reducible refine And.intro ?_ ?_); (focus (first | exact Eq.refl _ | exact trivial | (with_reducible assumption) | (with_reducible exact Int.natCast_nonneg _) | exact Nat.le_of_ble_eq_true (Eq.refl true) | exact Zbq (Eq.refl _) (Eq.refl _) (Eq.refl _) | decide))))); (conv => whnf)) <;> (exact rfl))))
  (focus exact rfl)
  (conv => (arg 1; whnf))
  exact Za8.done) : G := s e h
theorem s3 {A B C G G' : Prop} (a : A) (b : B) (c : C) (h : G') (s : A → B → C → Za8 G G' := by
  intro a b c
  (repeat (first | ((conv => (arg 1; whnf)); (with_reducible apply Za8.side); (focus (first | exact Eq.refl _ | exact trivial | (with_reducible assumption) | (with_reducible exact Int.natCast_nonneg _) | exact Nat.le_of_ble_eq_true (Eq.refl true) | exact Zbq (Eq.refl _) (Eq.refl _) (Eq.refl _) | decide))) | ((with_reducible apply Za8.side); (focus (first | exact a | exact b | exact c)))))
  exact Za8.done) : G := s a b c h
theorem sa {A B G G' : Prop} (a : A) (b : B) (h : G') (s : A → B → Za8 G G' := by
  intro a b
  (repeat (first | ((conv => (arg 1; whnf)); (with_reducible apply Za8.side); (focus (first | exact Eq.refl _ | exact trivial | (with_reducible assumption) | (with_reducible exact Int.natCast_nonneg _) | exact Nat.le_of_ble_eq_true (Eq.refl true) | exact Zbq (Eq.refl _) (Eq.refl _) (Eq.refl _) | decide))) | ((with_reducible apply Za8.side); (focus (first | exact a _ | exact ZnJ | (simp only [List.length_map, List.length_set]; exact Nat.le_refl _) | (have h := b; simp only [List.length_map, List.length_append, List.length_cons, List.length_nil, Nat.zero_add] at h ⊢; first | exact h | (unfold maxLen; omega) | omega))))))
  exact Za8.done) : G := s a b h
theorem e3 {α β γ : Type} {K : List α → List β → List γ → Prop} (h : K [] [] []) : ∃ a b c, K a b c := ⟨[], [], [], h⟩
theorem cm {P : Program} [Gl P] {f : FuncId} {args : List D} {bx b0 : ZX} {d0 : D} {K : D → ZX → Prop} (h : Zj P f args bx fun d b => d = d0 ∧ b = b0) (k : K d0 b0) : Zj P f args bx K :=
 Zj.mono h fun d b hh => by obtain ⟨rfl, rfl⟩ := hh; exact k
theorem ift {A : Prop} {b : Bool} {α : Type} {x y r : α} (a : A) (h : (if b = true then x else y) = r) (hb : A → b = true := by intro a; first | assumption | exact Eq.refl _ | simp only [a, Bool.and_true, Bool.true_and, Bool.and_false, Bool.false_and, Bool.or_true, Bool.true_or, Bool.or_false, Bool.false_or, Bool.not_true, Bool.not_false, cond_true, cond_false, List.length_map]) : x = r := ZmP (hb a) h
theorem ife {A : Prop} {b : Bool} {α : Type} {x y r : α} (a : A) (h : (if b = true then x else y) = r) (hb : A → b = false := by intro a; first | assumption | exact Eq.refl _ | simp only [a, Bool.and_true, Bool.true_and, Bool.and_false, Bool.false_and, Bool.or_true, Bool.true_or, Bool.or_false, Bool.false_or, Bool.not_true, Bool.not_false, cond_true, cond_false, List.length_map]) : y = r := ZmR (hb a) h
theorem web {A : Prop} {x y : Bool} (a : A) (h : A → x = y := by intro a; first | exact Eq.refl _ | simp only [a, Bool.and_true, Bool.true_and, Bool.and_false, Bool.false_and, Bool.or_true, Bool.true_or, Bool.or_false, Bool.false_or, Bool.not_true, Bool.not_false, cond_true, cond_false, List.length_map]) : WE (.v (.bool x)) (.v (.bool y)) := Zq0 (h a)
theorem wei {A : Prop} {k : IntKind} {x y : Int} (a : A) (h : A → x = y := by intro a; first | exact Eq.refl _ | simp only [a, Bool.and_true, Bool.true_and, Bool.and_false, Bool.false_and, Bool.or_true, Bool.true_or, Bool.or_false, Bool.false_or, Bool.not_true, Bool.not_false, cond_true, cond_false, List.length_map]) : WE (.v (.int k x)) (.v (.int k y)) := Zd2 (h a)
section
variable {r : Nat → Nat} {S T : AS} {e : E} {tk : Option (Nat × Nat)}
theorem tc {i : Nat} {l : List (Nat × D)} (k : WTs r S l) (h : WD r (S.get i) (.c none e) := by exact Zy (WE.refl _)) : WTs r S ((i, .c none e) :: l) := ⟨h, k⟩
theorem tp {i n o : Nat} {l : List (Nat × D)} (k : WTs r S l) (h : WD r (S.get i) (.ptr n o) := by exact Zpz) : WTs r S ((i, .ptr n o) :: l) := ⟨h, k⟩
theorem lc {xs ys : List E} (k : WL xs ys) : WL (e :: xs) (e :: ys) := ⟨.refl _, k⟩
theorem cc {xs ys : List Cell} (k : WCs r xs ys) : WCs r ((tk, e) :: xs) ((none, e) :: ys) := ZrD (.refl _) k
theorem wx (h : WS (rn []) S T) : ∃ r, WS r S T := ⟨_, h⟩
end
theorem Zla {n a b : Nat} (h : a = b) : WE (.rs n a) (.rs n b) := h ▸ WE.refl _
theorem ixn_lt {α : Type} {X : List α} {v : Nat} {x : α} (h : X[v]? = some x) : ((v : Nat) : Int) < ((X.length : Nat) : Int) := by
 have := (List.getElem?_eq_some_iff.1 h).1; omega
theorem ixi_lt {α : Type} {X : List α} {i : Int} {x : α} (h0 : 0 ≤ i) (h : X[i.toNat]? = some x) : i < ((X.length : Nat) : Int) := by
 have := (List.getElem?_eq_some_iff.1 h).1; omega
theorem we_set {α : Type} {f : α → List E} {X : List α} {i : Nat} {row : List E} {v : α} (h : WL row (f v)) : WE (.sl ((X.map f).set i row)) (.sl ((X.set i v).map f)) := by
 refine WE.rows (by simp) fun k ra rb ha hb => ?_
 by_cases hik : i = k
 ·subst hik
  have hl : i < X.length := by
   have := (List.getElem?_eq_some_iff.1 ha).1
   simpa using this
  rw [List.getElem?_set_self (by simpa using hl)] at ha
  rw [List.getElem?_map, List.getElem?_set_self hl] at hb
  simp only [Option.map_some, Option.some.injEq] at ha hb
  subst ha hb
  exact h
 ·rw [List.getElem?_set_ne hik] at ha
  rw [List.getElem?_map, List.getElem?_set_ne hik, ← List.getElem?_map] at hb
  rw [ha] at hb
  injection hb with hb
  subst hb
  exact WL.refl _
theorem ZpE {α : Type} {f : α → List E} {X Y : List α} {l : Nat} (h : l = X.length) : (X.map f).take l ++ Y.map f = (X ++ Y).map f := by
 subst h
 rw [List.map_append]
 congr 1
 exact List.take_of_length_le (by simp)
theorem Zqe {α β : Type} {X Y : List α} {Z : List β} {l : Nat} (h : l = X.length) (hz : Z.length = Y.length) : l + Z.length = (X ++ Y).length := by subst h; rw [List.length_append, hz]
theorem ob_sl {α : Type} {g : α → List E} {s t : List α} {h : Int} (ht : t = (s.take h.toNat).drop ((0 : Nat) : Int).toNat) : (s.map g).take h.toNat = t.map g := by
 rw [ht]
 show (s.map g).take h.toNat = (s.take h.toNat).map g
 rw [List.map_take]
theorem ob_sln {α : Type} {s t : List α} {h : Int} (h3 : h ≤ ((s.length : Nat) : Int)) (ht : t = (s.take h.toNat).drop ((0 : Nat) : Int).toNat) : h.toNat = t.length := by
 rw [ht]
 show h.toNat = (s.take h.toNat).length
 rw [List.length_take]; omega

end Go.Am
