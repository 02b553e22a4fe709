/- Part 5 of the proof: the program's functions as Lean functions with their walks, and the plain law. It holds for every input, without conditions. -/
import Derived.Test.YtafniolcakiljaaDoorUsA
import Derived.Test.YtafniolcakiljaaDoorUsB
import Derived.Test.YtafniolcakiljaaDoorUsC
import Derived.Test.YtafniolcakiljaaDoorUsD
set_option linter.unusedVariables false
set_option linter.unusedSimpArgs false
set_option maxRecDepth 100000
set_option maxHeartbeats 4000000
set_option synthInstance.maxHeartbeats 1000000
set_option synthInstance.maxSize 1000
namespace Go.Proofs.YtafniolcakiljaaDoor
open Go Go.Am
theorem nd {nt : Nat} (h : decide (nt ≤ EXT) = true) (c : Code) (Q : Exit → AS → Prop) (S : AS) (hk : Am.node (@ZjY) Tryd.prog tab nt c Q S) : AWP Tryd.prog nt c Q S :=
 AWP.node tabOk (of_decide_eq_true h) (Zqs nt (of_decide_eq_true h)) c Q S hk
theorem noIter : (Tryd.prog.underlying 1000000).isNone = true := by kernel_rfl
theorem nn {nt : Nat} {c : Code} {Q : Exit → AS → Prop} {S : AS} (hk : Am.node (@ZjY) Tryd.prog tab nt c Q S) (h : decide (nt ≤ EXT) = true := by decide) : AWP Tryd.prog nt c Q S := nd h c Q S hk
theorem nw {nt : Nat} {c : Code} {Q : Exit → AS → Prop} {S : AS} {G' : Prop} (hk : G') (s : Za8 (Am.node (@ZjY) Tryd.prog tab nt c Q S) G' := by (conv => (arg 1; whnf)); exact Za8.done) (h : decide (nt ≤ EXT) = true := by decide) : AWP Tryd.prog nt c Q S := nd h c Q S (s hk)
theorem ns {nt : Nat} {c : Code} {Q : Exit → AS → Prop} {S : AS} {G' : Prop} (hk : G') (s : Za8 (Am.node (@ZjY) Tryd.prog tab nt c Q S) G' := by
  (repeat (first | ((conv => (arg 1; whnf)); (with_reducible apply Za8.side); (focus (first | exact Eq.refl _ | exact trivial | (with_reducible assumption) | (with_reducible exact Int.natCast_nonneg _) | exact Nat.le_of_ble_eq_true (Eq.refl true) | exact Zbq (Eq.refl _) (Eq.refl _) (Eq.refl _) | decide)))))
  (conv => (arg 1; whnf))
  exact Za8.done) (h : decide (nt ≤ EXT) = true := by decide) : AWP Tryd.prog nt c Q S := nd h c Q S (s hk)
theorem en {f : FuncId} {fn : Func} (hf : Tryd.prog.funcs[f]? = some fn) {args : List D} {bx bx' : ZX} {d' : D} (hk : AWP Tryd.prog fn.ntmps (ZF fn) (ZcP tab fn.results (Zde d' bx')) ⟨ZaT 0 args, bx⟩)
  (hb : fn.body.isSome = true := by exact rfl) (hname : (fn.name == "runtime.NumGoroutine") = false := by decide) (hargs : args.length ≤ fn.ntmps := by exact Nat.le_of_ble_eq_true rfl) : Zj Tryd.prog f args bx fun d b => d = d' ∧ b = bx' :=
 enter tabOk hf hb hname hargs hk
structure Ze where
 fCon : ByteArray
 fN : Int
def Ze.cells (v : Ze) : List E := [.v (.string v.fCon), .v (.int .i64 v.fN)]
theorem Ze.cells_eq (v : Ze) : v.cells = [.v (.string v.fCon), .v (.int .i64 v.fN)] := rfl
theorem Ze.cells_len (v : Ze) : v.cells.length = 2 := rfl
structure Zf where
 fAll : Bool
 fList : (List Ze)
def Zf.cells (v : Zf) : List E := [.v (.bool v.fAll), .sl (v.fList.map Ze.cells)]
theorem Zf.cells_eq (v : Zf) : v.cells = [.v (.bool v.fAll), .sl (v.fList.map Ze.cells)] := rfl
theorem Zf.cells_len (v : Zf) : v.cells.length = 2 := rfl
mutual
inductive Zb where
 | mk (fOp : Int) (fName : ByteArray) (fN : Int) (fKids : (List Zb)) (fSet : Zf)
end
def Zb.fOp : Zb → Int | .mk x _ _ _ _ => x
def Zb.fName : Zb → ByteArray | .mk _ x _ _ _ => x
def Zb.fN : Zb → Int | .mk _ _ x _ _ => x
def Zb.fKids : Zb → (List Zb) | .mk _ _ _ x _ => x
def Zb.fSet : Zb → Zf | .mk _ _ _ _ x => x
mutual
def Zb.cells : Zb → List E
 | .mk x0 x1 x2 x3 x4 => [.v (.int .i64 x0)] ++ [.v (.string x1)] ++ [.v (.int .i64 x2)] ++ [.sl (Zb.encs x3)] ++ [.v (.bool x4.fAll)] ++ [.sl (x4.fList.map Ze.cells)]
def Zb.encs : List Zb → List (List E)
 | [] => []
 | x :: xs => Zb.cells x :: Zb.encs xs
end
theorem Zb.encs_map : ∀ l : List Zb, Zb.encs l = l.map Zb.cells
 | [] => by simp [Zb.encs]
 | x :: xs => by simp [Zb.encs, Zb.encs_map xs]
theorem Zb.cells_eq (v : Zb) : v.cells = [.v (.int .i64 v.fOp), .v (.string v.fName), .v (.int .i64 v.fN), .sl (v.fKids.map Zb.cells), .v (.bool v.fSet.fAll), .sl (v.fSet.fList.map Ze.cells)] := by
 cases v
 simp only [Zb.cells, List.cons_append, List.nil_append, Zb.encs_map]
 rfl
theorem Zb.cells_len (v : Zb) : v.cells.length = 6 := by rw [Zb.cells_eq]; rfl
theorem Zb.ind {M : Zb → Prop} (h : ∀ v : Zb, (∀ k ∈ v.fKids, M k) → M v) : ∀ v, M v := by
 intro v
 exact Zb.rec (motive_1 := M) (motive_2 := fun l => ∀ k ∈ l, M k) (fun x0 x1 x2 x3 x4 ih => h _ ih) (fun k hk => by simp at hk) (fun v l hv hl k hk => by
  rcases List.mem_cons.1 hk with rfl | hk
  ·exact hv
  ·exact hl k hk) v
structure Za9 where
 e0 : Zf
 e1 : Zf
 e2 : Zf
def Za9.cells (v : Za9) : List E := [.v (.bool v.e0.fAll), .sl (v.e0.fList.map Ze.cells), .v (.bool v.e1.fAll), .sl (v.e1.fList.map Ze.cells), .v (.bool v.e2.fAll), .sl (v.e2.fList.map Ze.cells)]
theorem Za9.cells_eq (v : Za9) : v.cells = [.v (.bool v.e0.fAll), .sl (v.e0.fList.map Ze.cells), .v (.bool v.e1.fAll), .sl (v.e1.fList.map Ze.cells), .v (.bool v.e2.fAll), .sl (v.e2.fList.map Ze.cells)] := rfl
theorem Za9.cells_len (v : Za9) : v.cells.length = 6 := rfl
def Zbt (x : (List Ze)) : List E := [.sl (x.map Ze.cells)]
theorem c_L_TExc_len (x : (List Ze)) : (Zbt x).length = 1 := rfl
def Zg9 (x : Int) : List E := [.v (.int .u8 x)]
theorem ZlJ (x : Int) : (Zg9 x).length = 1 := rfl
def c_S (x : ByteArray) : List E := [.v (.string x)]
theorem ZcB (x : ByteArray) : (c_S x).length = 1 := rfl
theorem c_I_u8_key : Zee Zg9 := ZoY
theorem c_S_key : Zee c_S := Zl6

def ZL (s : (List Ze)) (x_8 : Nat) (v : Ze) (Zdn : (List Ze)) : Option (Int) :=
 (match Zdn with
 | x13 :: Zqf =>
 if ((v.fCon.toList == x13.fCon.toList) && ((v.fN == x13.fN) && true)) = true then
 some ((x_8 : Nat) : Int)
 else
 ZL s (x_8 + 1) v Zqf
 | [] =>
 some (-1))
 partial_fixpoint
def ZL.M (s : (List Ze)) (x_8 : Nat) (v : Ze) (Zdn : (List Ze)) (r : Int) : Prop :=
 ∀ Zif : List Ze, s = Zif ++ Zdn → x_8 = Zif.length → s.length ≤ maxLen → AWL Tryd.prog 19 (Code.sub (ZF Tryd.f68) [1, 0, 1, 0, 0]) (Code.cont Tryd.prog 19 (ZF Tryd.f68) [1, 0, 1, 0] (ZcP tab Tryd.f68.results (Zde (.c none (.v (.int .i64 r))) []))) ⟨[(0, .c none (.sl (s.map Ze.cells))), (3, .ptr 3 0), (7, .c none (.v (.int .i64 ((s.length : Nat) : Int)))), (8, .c none (.v (.int .i64 ((x_8 : Nat) : Int))))], [(3, [(none, .v (.string v.fCon)), (none, .v (.int .i64 v.fN))])]⟩
theorem Ze3 (s : (List Ze)) (x_8 : Nat) (v : Ze) (Zdn : (List Ze)) : ∀ r, ZL s x_8 v Zdn = some r → ZL.M s x_8 v Zdn r := by
 refine ZL.partial_correctness s v (fun x_8 Zdn r => ZL.M s x_8 v Zdn r) ?_ x_8 Zdn
 intro slices_Index_Exc_l1' Zcv x_8 Zdn r hF
 have ZeU := fun (_s : (List Ze)) (x_8 : Nat) (_v : Ze) (Zdn : (List Ze)) => Zcv x_8 Zdn
 clear Zcv
 unfold ZL.M
 intro Zif ZoK ZnR hlen1
 refine AWL.step ?_
 refine AWP.seq ?_
 refine ns ?_
 refine AWP.seq ?_
 refine nw ?_
 refine Z6 ZoK ZnR (fun x13 Zqf ZpC Zrk Zrh => ?_) (fun ZpC => ?_)
 ·subst ZpC
  refine nw ?_
  refine AWP.seq ?_
  refine AWP.block ?_
  refine AWP.seq ?_
  refine ns ?_
  refine AWP.seq ?_
  refine nn ?_
  refine Or.inl (Exists.intro 5 (Exists.intro [[], [], [], [], []] (Exists.intro [([11, 12, 13, 14, 15], [], []), ([11, 12, 13, 14, 15], [], []), ([11, 12, 13, 14, 15], [], []), ([11, 14, 15], [], []), ([11, 15], [], [])] (Exists.intro [11, 12, 13, 14, 15] (And.intro (by decide +kernel) ?_)))))
  refine dp ?_
  refine dp ?_
  refine dp ?_
  refine dr (ZaD (Ze.cells_eq x13) Zrk) ?_
  refine dp ?_
  refine st ?_
  refine nw ?_
  refine Zp hF (fun Zj2 hF => ?_) (fun Zj2 hF => ?_)
  ·refine AWP.seq ?_
   refine ns ?_
   obtain rfl := Zg hF
   refine ns ?_
   refine Exists.intro [] ?_
   refine st ?_
   exact wx (WS.mk (tc Zd) Zc)
  ·refine nw ?_
   refine ns ?_
   refine AWL.weak (rn []) ?_ (ZeU s (x_8 + 1) v Zqf _ hF (Zif ++ [x13]) (by rw [ZoK]; simp) (by rw [ZnR]; simp) hlen1)
   exact (WS.mk (tc (tp (tc (Za (Zy (Zd2 (Zau hlen1 Zrh))) Zd)))) (Zi rfl (cc (cc Zk)) Zc))
 ·subst ZpC
  refine nw ?_
  refine AWP.seq ?_
  refine ns ?_
  obtain rfl := Zg hF
  refine ns ?_
  refine Exists.intro [] ?_
  refine st ?_
  exact wx (WS.mk (tc Zd) Zc)

def ZaP (s : (List Ze)) (v : Ze) : Option (Int) :=
 ZL s 0 v s
def ZaP.M (s : (List Ze)) (v : Ze) (r : Int) : Prop :=
 Zj Tryd.prog 68 [.c none (.sl (s.map Ze.cells)), .agg [.v (.string v.fCon), .v (.int .i64 v.fN)]] [] (fun d b => d = .c none (.v (.int .i64 r)) ∧ b = [])
theorem ZfZ (s : (List Ze)) (v : Ze) (r : Int) (hF : ZaP s v = some r) : ZaP.M s v r := by
 unfold ZaP at hF
 unfold ZaP.M
 refine en Tryd.func68 ?_
 refine AWP.seq ?_
 refine ns ?_
 refine AWP.seq ?_
 refine AWP.seq ?_
 refine ns ?_
 intro hlen1
 (try rw [List.length_map] at hlen1)
 (try rw [List.length_map])
 refine st ?_
 refine AWP.block ?_
 refine AWP.loop ?_
 refine AWL.weak (rn []) ?_ (Ze3 s 0 v s _ hF ([]) rfl rfl hlen1)
 exact (WS.mk (tc (tp (tc (tc Zd)))) (Zi rfl (cc (cc Zk)) Zc))

def Zak (s : (List Ze)) (v : Ze) : Option (Bool) :=
 ZaP s v >>= fun r1 =>
 some (decide (r1 ≥ 0))
def Zak.M (s : (List Ze)) (v : Ze) (r : Bool) : Prop :=
 Zj Tryd.prog 51 [.c none (.sl (s.map Ze.cells)), .agg [.v (.string v.fCon), .v (.int .i64 v.fN)]] [] (fun d b => d = .c none (.v (.bool r)) ∧ b = [])
theorem ZeS (s : (List Ze)) (v : Ze) (r : Bool) (hF : Zak s v = some r) : Zak.M s v r := by
 unfold Zak at hF
 unfold Zak.M
 refine en Tryd.func51 ?_
 refine AWP.seq ?_
 refine ns ?_
 refine AWP.seq ?_
 obtain ⟨r1, hr1, hF⟩ := bind_some hF
 refine ns ?_
 refine e3 ?_
 refine st ?_
 refine cm (Zj.weak (rn []) (ZfZ s v _ hr1) rfl (WS.mk (tc (Za (Zo (lc (lc Zm))) Zd)) Zc)) ?_
 refine st ?_
 obtain rfl := Zg hF
 refine ns ?_
 refine Exists.intro [] ?_
 refine st ?_
 exact wx (WS.mk (tc Zd) Zc)

def ZaO (s : Zf) (e : Ze) : Option (Bool) :=
 (if s.fAll = true then some true else Zak s.fList e >>= fun r1 =>
 some r1) >>= fun c2 =>
 some c2
def ZaO.M (s : Zf) (e : Ze) (r : Bool) : Prop :=
 Zj Tryd.prog 33 [.agg [.v (.bool s.fAll), .sl (s.fList.map Ze.cells)], .agg [.v (.string e.fCon), .v (.int .i64 e.fN)]] [] (fun d b => d = .c none (.v (.bool r)) ∧ b = [])
theorem ZbD (s : Zf) (e : Ze) (r : Bool) (hF : ZaO s e = some r) : ZaO.M s e r := by
 unfold ZaO at hF
 unfold ZaO.M
 refine en Tryd.func33 ?_
 refine AWP.seq ?_
 refine ns ?_
 refine AWP.seq ?_
 obtain ⟨c2, hc2, hF⟩ := bind_some hF
 refine AWP.cutN (fun T => ∃ r, WS r T ⟨[(4, .c none (.v (.bool c2)))], []⟩) ?_ (fun T hw => ?_)
 ·refine ns ?_
  refine Zh false (fun hc3 => ?_) (fun hc3 => ?_)
  ·have hc2 := ift hc3 hc2
   (conv => whnf)
   obtain rfl := Zg hc2
   refine st ?_
   exact wx (WS.mk (Za (Zy (web hc3)) Zd) Zc)
  ·have hc2 := ife hc3 hc2
   obtain ⟨r1, hr1, hc2⟩ := bind_some hc2
   (conv => whnf)
   refine st ?_
   refine e3 ?_
   refine st ?_
   refine cm (Zj.weak (rn []) (ZeS s.fList e _ hr1) rfl (WS.mk (tc (Za (Zo (lc (lc Zm))) Zd)) Zc)) ?_
   refine st ?_
   obtain rfl := Zg hc2
   refine st ?_
   exact wx (WS.mk (Za (Zy (web hc3)) Zd) Zc)
 obtain ⟨r0, hw⟩ := hw
 (conv => whnf)
 refine AWP.weak r0 hw ?_
 obtain rfl := Zg hF
 refine ns ?_
 refine Exists.intro [] ?_
 refine st ?_
 exact wx (WS.mk (tc Zd) Zc)

def Zaa (a : Zf) (Zcc : Nat) (b : Zf) (Zay : (List Ze)) : Option (Bool) :=
 (match Zay with
 | x16 :: Zp9 =>
 ZaO b x16 >>= fun r19 =>
 if (!r19) = true then
 some false
 else
 Zaa a (Zcc + 1) b Zp9
 | [] =>
 some true)
 partial_fixpoint
def Zaa.M (a : Zf) (Zcc : Nat) (b : Zf) (Zay : (List Ze)) (r : Bool) : Prop :=
 ∀ ZcF : List Ze, a.fList = ZcF ++ Zay → Zcc = ZcF.length → a.fList.length ≤ maxLen → AWL Tryd.prog 27 (Code.sub (ZF Tryd.f35) [1, 1, 0, 1, 0, 0]) (Code.cont Tryd.prog 27 (ZF Tryd.f35) [1, 1, 0, 1, 0] (ZcP tab Tryd.f35.results (Zde (.c none (.v (.bool r))) []))) ⟨[(3, .ptr 3 0), (16, .c none (.sl (a.fList.map Ze.cells))), (17, .c none (.v (.int .i64 ((a.fList.length : Nat) : Int)))), (18, .c none (.v (.int .i64 ((Zcc : Nat) : Int))))], [(3, [(none, .v (.bool b.fAll)), (none, .sl (b.fList.map Ze.cells))])]⟩
theorem Zf2 (a : Zf) (Zcc : Nat) (b : Zf) (Zay : (List Ze)) : ∀ r, Zaa a Zcc b Zay = some r → Zaa.M a Zcc b Zay r := by
 refine Zaa.partial_correctness a b (fun Zcc Zay r => Zaa.M a Zcc b Zay r) ?_ Zcc Zay
 intro values_Within_l1' Zdc Zcc Zay r hF
 have ZfV := fun (_a : Zf) (Zcc : Nat) (_b : Zf) (Zay : (List Ze)) => Zdc Zcc Zay
 clear Zdc
 unfold Zaa.M
 intro ZcF ZgH ZgN hlen4
 refine AWL.step ?_
 refine AWP.seq ?_
 refine ns ?_
 refine AWP.seq ?_
 refine nw ?_
 refine Z6 ZgH ZgN (fun x16 Zp9 Zpo Zr7 ZrL => ?_) (fun Zpo => ?_)
 ·subst Zpo
  refine nw ?_
  refine AWP.seq ?_
  refine AWP.block ?_
  refine AWP.seq ?_
  refine nn ?_
  refine sr (ZaD (f := Ze.cells) (Ze.cells_eq x16) Zr7) ?_
  refine st ?_
  refine AWP.seq ?_
  obtain ⟨r19, Zp7, hF⟩ := bind_some hF
  refine ns ?_
  refine e3 ?_
  refine st ?_
  refine cm (Zj.weak (rn []) (ZbD b x16 _ Zp7) rfl (WS.mk (Za (Zo (lc (lc Zm))) (Za (Zo (lc (lc Zm))) Zd)) Zc)) ?_
  refine st ?_
  refine nw ?_
  refine Zp hF (fun Zl8 hF => ?_) (fun Zl8 hF => ?_)
  ·refine AWP.seq ?_
   refine ns ?_
   obtain rfl := Zg hF
   refine ns ?_
   refine Exists.intro [] ?_
   refine st ?_
   exact wx (WS.mk (tc Zd) Zc)
  ·refine nw ?_
   refine ns ?_
   refine AWL.weak (rn []) ?_ (ZfV a (Zcc + 1) b Zp9 _ hF (ZcF ++ [x16]) (by rw [ZgH]; simp) (by rw [ZgN]; simp) hlen4)
   exact (WS.mk (tp (tc (tc (Za (Zy (Zd2 (Zau hlen4 ZrL))) Zd)))) (Zi rfl (cc (cc Zk)) Zc))
 ·subst Zpo
  refine nw ?_
  refine AWP.seq ?_
  refine ns ?_
  obtain rfl := Zg hF
  refine ns ?_
  refine Exists.intro [] ?_
  refine st ?_
  exact wx (WS.mk (tc Zd) Zc)

def Zax (a : Zf) (b : Zf) : Option (Bool) :=
 if (a.fAll || b.fAll) = true then
 some b.fAll
 else
 Zaa a 0 b a.fList
def Zax.M (a : Zf) (b : Zf) (r : Bool) : Prop :=
 Zj Tryd.prog 35 [.agg [.v (.bool a.fAll), .sl (a.fList.map Ze.cells)], .agg [.v (.bool b.fAll), .sl (b.fList.map Ze.cells)]] [] (fun d b => d = .c none (.v (.bool r)) ∧ b = [])
theorem ZbQ (a : Zf) (b : Zf) (r : Bool) (hF : Zax a b = some r) : Zax.M a b r := by
 unfold Zax at hF
 unfold Zax.M
 refine en Tryd.func35 ?_
 refine AWP.seq ?_
 refine ns ?_
 refine AWP.seq ?_
 refine AWP.seq ?_
 refine AWP.cutN (fun T => ∃ r, WS r T ⟨[(2, .ptr 2 0), (3, .ptr 3 0), (12, .c none (.v (.bool (a.fAll || b.fAll))))], [(2, [(none, .v (.bool a.fAll)), (none, .sl (a.fList.map Ze.cells))]), (3, [(none, .v (.bool b.fAll)), (none, .sl (b.fList.map Ze.cells))])]⟩) ?_ (fun T hw => ?_)
 ·refine ns ?_
  refine Zh false (fun hc2 => ?_) (fun hc2 => ?_)
  ·(conv => whnf)
   refine st ?_
   exact wx (WS.mk (tp (tp (Za (Zy (web hc2)) Zd))) (Zi rfl (cc (cc Zk)) (Zi rfl (cc (cc Zk)) Zc)))
  ·(conv => whnf)
   refine st ?_
   exact wx (WS.mk (tp (tp (Za (Zy (web hc2)) Zd))) (Zi rfl (cc (cc Zk)) (Zi rfl (cc (cc Zk)) Zc)))
 obtain ⟨r0, hw⟩ := hw
 (conv => whnf)
 refine AWP.weak r0 hw ?_
 refine nw ?_
 refine Zp hF (fun hc3 hF => ?_) (fun hc3 hF => ?_)
 ·refine AWP.seq ?_
  refine ns ?_
  obtain rfl := Zg hF
  refine ns ?_
  refine Exists.intro [] ?_
  refine st ?_
  exact wx (WS.mk (tc Zd) Zc)
 ·refine nw ?_
  refine AWP.seq ?_
  refine AWP.seq ?_
  refine ns ?_
  intro hlen4
  (try rw [List.length_map] at hlen4)
  (try rw [List.length_map])
  refine st ?_
  refine AWP.block ?_
  refine AWP.loop ?_
  refine AWL.weak (rn []) ?_ (Zf2 a 0 b a.fList _ hF ([]) rfl rfl hlen4)
  exact (WS.mk (tp (tc (tc (tc Zd)))) (Zi rfl (cc (cc Zk)) Zc))

mutual
def Z3 (a : Zb) (b : Zb) : Option (Bool) :=
 if ((b.fOp == 6) || ((b.fOp == 5) && b.fSet.fAll)) = true then
 some true
 else
 if (a.fOp != b.fOp) = true then
 some false
 else
 if (b.fOp == 1) = true then
 ZZ b (b.fOp == 1) a
 else
 ZZ b (b.fOp == 2) a
 partial_fixpoint
def ZZ (b : Zb) (Zjr : Bool) (a : Zb) : Option (Bool) :=
 if Zjr = true then
 some (a.fN == b.fN)
 else
 if (b.fOp == 4) = true then
 some true
 else
 if (b.fOp == 5) = true then
 Zax a.fSet b.fSet >>= fun r11 =>
 some r11
 else
 if (b.fOp == 3) = true then
 (if (a.fName.toList == b.fName.toList) = true then Zq a.fKids b.fKids >>= fun r13 =>
 some r13 else some false) >>= fun c14 =>
 some c14
 else
 some false
 partial_fixpoint
def Zq (s1_ : (List Zb)) (s2_ : (List Zb)) : Option (Bool) :=
 if (((s1_.length : Nat) : Int) != ((s2_.length : Nat) : Int)) = true then
 some false
 else
 Zl s2_ s1_ 0 s1_
 partial_fixpoint
def Zl (s2_ : (List Zb)) (s1_ : (List Zb)) (Zdg : Nat) (ZaS : (List Zb)) : Option (Bool) :=
 (match ZaS with
 | x21 :: Zqn =>
 (s2_[Zdg]?) >>= fun x24 =>
 Z3 x21 x24 >>= fun r25 =>
 if (!r25) = true then
 some false
 else
 Zl s2_ s1_ (Zdg + 1) Zqn
 | [] =>
 some true)
 partial_fixpoint
end
def Z3.M (a : Zb) (b : Zb) (r : Bool) : Prop :=
 Zj Tryd.prog 13 [.agg [.v (.int .i64 a.fOp), .v (.string a.fName), .v (.int .i64 a.fN), .sl (a.fKids.map Zb.cells), .v (.bool a.fSet.fAll), .sl (a.fSet.fList.map Ze.cells)], .agg [.v (.int .i64 b.fOp), .v (.string b.fName), .v (.int .i64 b.fN), .sl (b.fKids.map Zb.cells), .v (.bool b.fSet.fAll), .sl (b.fSet.fList.map Ze.cells)]] [] (fun d b => d = .c none (.v (.bool r)) ∧ b = [])
def ZZ.M (b : Zb) (Zjr : Bool) (a : Zb) (r : Bool) : Prop :=
 AWP Tryd.prog 56 (Code.sub (ZF Tryd.f13) [1, 1, 1, 0, 1, 0, 1]) (Code.cont Tryd.prog 56 (ZF Tryd.f13) [1, 1, 1, 0, 1, 0, 1] (ZcP tab Tryd.f13.results (Zde (.c none (.v (.bool r))) []))) ⟨[(2, .ptr 2 0), (3, .ptr 3 0), (24, .c none (.v (.int .i64 b.fOp))), (25, .c none (.v (.bool Zjr)))], [(2, [(none, .v (.int .i64 a.fOp)), (none, .v (.string a.fName)), (none, .v (.int .i64 a.fN)), (none, .sl (a.fKids.map Zb.cells)), (none, .v (.bool a.fSet.fAll)), (none, .sl (a.fSet.fList.map Ze.cells))]), (3, [(none, .v (.int .i64 b.fOp)), (none, .v (.string b.fName)), (none, .v (.int .i64 b.fN)), (none, .sl (b.fKids.map Zb.cells)), (none, .v (.bool b.fSet.fAll)), (none, .sl (b.fSet.fList.map Ze.cells))])]⟩
def Zq.M (s1_ : (List Zb)) (s2_ : (List Zb)) (r : Bool) : Prop :=
 Zj Tryd.prog 40 [.c none (.sl (s1_.map Zb.cells)), .c none (.sl (s2_.map Zb.cells)), .c none (.v (.func (.func 13) #[] #[]))] [] (fun d b => d = .c none (.v (.bool r)) ∧ b = [])
def Zl.M (s2_ : (List Zb)) (s1_ : (List Zb)) (Zdg : Nat) (ZaS : (List Zb)) (r : Bool) : Prop :=
 ∀ ZcK : List Zb, s1_ = ZcK ++ ZaS → Zdg = ZcK.length → s1_.length ≤ maxLen → s2_.length ≤ maxLen → AWL Tryd.prog 32 (Code.sub (ZF Tryd.f40) [1, 1, 0, 1, 0, 0]) (Code.cont Tryd.prog 32 (ZF Tryd.f40) [1, 1, 0, 1, 0] (ZcP tab Tryd.f40.results (Zde (.c none (.v (.bool r))) []))) ⟨[(1, .c none (.sl (s2_.map Zb.cells))), (2, .c none (.v (.func (.func 13) #[] #[]))), (15, .c none (.sl (s1_.map Zb.cells))), (16, .c none (.v (.int .i64 ((s1_.length : Nat) : Int)))), (17, .c none (.v (.int .i64 ((Zdg : Nat) : Int))))], []⟩
theorem Zbz : (∀ (a : Zb) (b : Zb), ∀ r, Z3 a b = some r → Z3.M a b r) ∧ (∀ (b : Zb) (Zjr : Bool) (a : Zb), ∀ r, ZZ b Zjr a = some r → ZZ.M b Zjr a r) ∧ (∀ (s1_ : (List Zb)) (s2_ : (List Zb)), ∀ r, Zq s1_ s2_ = some r → Zq.M s1_ s2_ r) ∧ (∀ (s2_ : (List Zb)) (s1_ : (List Zb)) (Zdg : Nat) (ZaS : (List Zb)), ∀ r, Zl s2_ s1_ Zdg ZaS = some r → Zl.M s2_ s1_ Zdg ZaS r) := by
 refine Z3.mutual_partial_correctness Z3.M ZZ.M Zq.M Zl.M ?_ ?_ ?_ ?_
 ·intro values_Refines_k1' Zdj a b r hF
  unfold Z3.M
  refine en Tryd.func13 ?_
  refine AWP.seq ?_
  refine ns ?_
  refine AWP.seq ?_
  refine AWP.seq ?_
  refine AWP.cutN (fun T => ∃ r, WS r T ⟨[(2, .ptr 2 0), (3, .ptr 3 0), (17, .c none (.v (.bool ((b.fOp == 6) || ((b.fOp == 5) && b.fSet.fAll)))))], [(2, [(none, .v (.int .i64 a.fOp)), (none, .v (.string a.fName)), (none, .v (.int .i64 a.fN)), (none, .sl (a.fKids.map Zb.cells)), (none, .v (.bool a.fSet.fAll)), (none, .sl (a.fSet.fList.map Ze.cells))]), (3, [(none, .v (.int .i64 b.fOp)), (none, .v (.string b.fName)), (none, .v (.int .i64 b.fN)), (none, .sl (b.fKids.map Zb.cells)), (none, .v (.bool b.fSet.fAll)), (none, .sl (b.fSet.fList.map Ze.cells))])]⟩) ?_ (fun T hw => ?_)
  ·refine ns ?_
   refine Zh false (fun hc2 => ?_) (fun hc2 => ?_)
   ·(conv => whnf)
    refine st ?_
    exact wx (WS.mk (tp (tp (Za (Zy (web hc2)) Zd))) (Zi rfl (cc (cc (cc (cc (cc (cc Zk)))))) (Zi rfl (cc (cc (cc (cc (cc (cc Zk)))))) Zc)))
   ·(conv => whnf)
    refine st ?_
    refine Zh true (fun hc3 => ?_) (fun hc3 => ?_)
    ·(conv => whnf)
     refine st ?_
     exact wx (WS.mk (tp (tp (Za (Zy (web (And.intro hc2 hc3))) Zd))) (Zi rfl (cc (cc (cc (cc (cc (cc Zk)))))) (Zi rfl (cc (cc (cc (cc (cc (cc Zk)))))) Zc)))
    ·(conv => whnf)
     refine st ?_
     exact wx (WS.mk (tp (tp (Za (Zy (web (And.intro hc2 hc3))) Zd))) (Zi rfl (cc (cc (cc (cc (cc (cc Zk)))))) (Zi rfl (cc (cc (cc (cc (cc (cc Zk)))))) Zc)))
  obtain ⟨r0, hw⟩ := hw
  (conv => whnf)
  refine AWP.weak r0 hw ?_
  refine nw ?_
  refine Zp hF (fun hc4 hF => ?_) (fun hc4 hF => ?_)
  ·refine AWP.seq ?_
   refine ns ?_
   obtain rfl := Zg hF
   refine ns ?_
   refine Exists.intro [] ?_
   refine st ?_
   exact wx (WS.mk (tc Zd) Zc)
  ·refine nw ?_
   refine AWP.seq ?_
   refine AWP.seq ?_
   refine ns ?_
   refine nw ?_
   refine Zp hF (fun hc6 hF => ?_) (fun hc6 hF => ?_)
   ·refine AWP.seq ?_
    refine ns ?_
    obtain rfl := Zg hF
    refine ns ?_
    refine Exists.intro [] ?_
    refine st ?_
    exact wx (WS.mk (tc Zd) Zc)
   ·refine nw ?_
    refine AWP.seq ?_
    refine AWP.seq ?_
    refine ns ?_
    refine AWP.block ?_
    refine AWP.seq ?_
    refine AWP.seq ?_
    refine ns ?_
    refine nw ?_
    refine Zp hF (fun Zj2 hF => ?_) (fun Zj2 hF => ?_)
    ·refine nw ?_
     refine AWP.weak (rn []) ?_ (Zdj b (b.fOp == 1) a _ hF)
     exact (WS.mk (tp (tp (tc (tc Zd)))) (Zi rfl (cc (cc (cc (cc (cc (cc Zk)))))) (Zi rfl (cc (cc (cc (cc (cc (cc Zk)))))) Zc)))
    ·refine ns ?_
     refine AWP.weak (rn []) ?_ (Zdj b (b.fOp == 2) a _ hF)
     exact (WS.mk (tp (tp (tc (tc Zd)))) (Zi rfl (cc (cc (cc (cc (cc (cc Zk)))))) (Zi rfl (cc (cc (cc (cc (cc (cc Zk)))))) Zc)))
 ·intro slices_EqualFunc_Value_values_Refines' ZbG b Zjr a r hF
  unfold ZZ.M
  refine nw ?_
  refine Zp hF (fun hc8 hF => ?_) (fun hc8 hF => ?_)
  ·refine AWP.seq ?_
   refine ns ?_
   obtain rfl := Zg hF
   refine ns ?_
   refine Exists.intro [] ?_
   refine st ?_
   exact wx (WS.mk (tc Zd) Zc)
  ·refine AWP.seq ?_
   refine ns ?_
   refine nw ?_
   refine Zp hF (fun hc9 hF => ?_) (fun hc9 hF => ?_)
   ·refine AWP.seq ?_
    refine ns ?_
    obtain rfl := Zg hF
    refine ns ?_
    refine Exists.intro [] ?_
    refine st ?_
    exact wx (WS.mk (tc Zd) Zc)
   ·refine AWP.seq ?_
    refine ns ?_
    refine nw ?_
    refine Zp hF (fun ZaK hF => ?_) (fun ZaK hF => ?_)
    ·refine AWP.seq ?_
     obtain ⟨r11, ZnI, hF⟩ := bind_some hF
     refine ns ?_
     refine e3 ?_
     refine st ?_
     refine cm (Zj.weak (rn []) (ZbQ a.fSet b.fSet _ ZnI) rfl (WS.mk (Za (Zo (lc (lc Zm))) (Za (Zo (lc (lc Zm))) Zd)) Zc)) ?_
     refine st ?_
     obtain rfl := Zg hF
     refine ns ?_
     refine Exists.intro [] ?_
     refine st ?_
     exact wx (WS.mk (tc Zd) Zc)
    ·refine AWP.seq ?_
     refine ns ?_
     refine nw ?_
     refine Zp hF (fun Zcl hF => ?_) (fun Zcl hF => ?_)
     ·refine AWP.seq ?_
      obtain ⟨c14, ZcO, hF⟩ := bind_some hF
      refine AWP.cutN (fun T => ∃ r, WS r T ⟨[(4, .c none (.v (.bool c14)))], []⟩) ?_ (fun T hw => ?_)
      ·refine ns ?_
       refine Zh true (fun ZfX => ?_) (fun ZfX => ?_)
       ·have ZcO := ift ZfX ZcO
        obtain ⟨r13, Zpq, ZcO⟩ := bind_some ZcO
        (conv => whnf)
        refine st ?_
        refine e3 ?_
        refine st ?_
        refine cm (Zj.weak (rn []) (ZbG a.fKids b.fKids _ Zpq) rfl (WS.mk (tc (tc (tc Zd))) Zc)) ?_
        refine st ?_
        obtain rfl := Zg ZcO
        refine st ?_
        exact wx (WS.mk (Za (Zy (web ZfX)) Zd) Zc)
       ·have ZcO := ife ZfX ZcO
        (conv => whnf)
        obtain rfl := Zg ZcO
        refine st ?_
        exact wx (WS.mk (Za (Zy (web ZfX)) Zd) Zc)
      obtain ⟨r0, hw⟩ := hw
      (conv => whnf)
      refine AWP.weak r0 hw ?_
      obtain rfl := Zg hF
      refine ns ?_
      refine Exists.intro [] ?_
      refine st ?_
      exact wx (WS.mk (tc Zd) Zc)
     ·refine nw ?_
      refine AWP.seq ?_
      refine ns ?_
      obtain rfl := Zg hF
      refine ns ?_
      refine Exists.intro [] ?_
      refine st ?_
      exact wx (WS.mk (tc Zd) Zc)
 ·intro slices_EqualFunc_Value_values_Refines_l1' Zad s1_ s2_ r hF
  unfold Zq.M
  refine en Tryd.func40 ?_
  refine AWP.seq ?_
  refine ns ?_
  refine AWP.seq ?_
  refine AWP.seq ?_
  refine ns ?_
  intro hlen4
  (try rw [List.length_map] at hlen4)
  (try rw [List.length_map])
  refine st ?_
  intro hlen5
  (try rw [List.length_map] at hlen5)
  (try rw [List.length_map])
  refine st ?_
  refine nw ?_
  refine Zp hF (fun hc6 hF => ?_) (fun hc6 hF => ?_)
  ·refine AWP.seq ?_
   refine ns ?_
   obtain rfl := Zg hF
   refine ns ?_
   refine Exists.intro [] ?_
   refine st ?_
   exact wx (WS.mk (tc Zd) Zc)
  ·refine nw ?_
   refine AWP.seq ?_
   refine AWP.seq ?_
   refine ns ?_
   intro hlen7
   (try rw [List.length_map] at hlen7)
   (try rw [List.length_map])
   refine st ?_
   refine AWP.block ?_
   refine AWP.loop ?_
   refine AWL.weak (rn []) ?_ (Zad s2_ s1_ 0 s1_ _ hF ([]) rfl rfl hlen7 hlen5)
   exact (WS.mk (tc (tc (tc (tc (tc Zd))))) Zc)
 ·intro values_Refines' slices_EqualFunc_Value_values_Refines_l1' Zgy Zad s2_ s1_ Zdg ZaS r hF
  unfold Zl.M
  intro ZcK Zgz Zgs hlen7 hlen5
  refine AWL.step ?_
  refine AWP.seq ?_
  refine ns ?_
  refine AWP.seq ?_
  refine nw ?_
  refine Z6 Zgz Zgs (fun x21 Zqn ZpJ ZrO Zr0 => ?_) (fun ZpJ => ?_)
  ·subst ZpJ
   refine nw ?_
   refine AWP.seq ?_
   refine AWP.block ?_
   refine AWP.seq ?_
   refine nn ?_
   refine sr (ZaD (f := Zb.cells) (Zb.cells_eq x21) ZrO) ?_
   refine st ?_
   refine AWP.seq ?_
   obtain ⟨x24, ZqQ, hF⟩ := bind_some hF
   refine nn ?_
   refine sr (ZaD (f := Zb.cells) (Zb.cells_eq x24) ZqQ) ?_
   refine st ?_
   refine AWP.seq ?_
   obtain ⟨r25, Zoo, hF⟩ := bind_some hF
   refine ns ?_
   refine e3 ?_
   refine st ?_
   refine cm (Zj.weak (rn []) (Zgy x21 x24 _ Zoo) rfl (WS.mk (Za (Zo (lc (lc (lc (lc (lc (lc Zm))))))) (Za (Zo (lc (lc (lc (lc (lc (lc Zm))))))) Zd)) Zc)) ?_
   refine st ?_
   refine nw ?_
   refine Zp hF (fun Zqj hF => ?_) (fun Zqj hF => ?_)
   ·refine AWP.seq ?_
    refine ns ?_
    obtain rfl := Zg hF
    refine ns ?_
    refine Exists.intro [] ?_
    refine st ?_
    exact wx (WS.mk (tc Zd) Zc)
   ·refine nw ?_
    refine ns ?_
    refine AWL.weak (rn []) ?_ (Zad s2_ s1_ (Zdg + 1) Zqn _ hF (ZcK ++ [x21]) (by rw [Zgz]; simp) (by rw [Zgs]; simp) hlen7 hlen5)
    exact (WS.mk (tc (tc (tc (tc (Za (Zy (Zd2 (Zau hlen7 Zr0))) Zd))))) Zc)
  ·subst ZpJ
   refine nw ?_
   refine AWP.seq ?_
   refine ns ?_
   obtain rfl := Zg hF
   refine ns ?_
   refine Exists.intro [] ?_
   refine st ?_
   exact wx (WS.mk (tc Zd) Zc)
theorem Zd5 : ∀ (a : Zb) (b : Zb), ∀ r, Z3 a b = some r → Z3.M a b r := Zbz.1
theorem values_Refines_k1_ok : ∀ (b : Zb) (Zjr : Bool) (a : Zb), ∀ r, ZZ b Zjr a = some r → ZZ.M b Zjr a r := Zbz.2.1
theorem slices_EqualFunc_Value_values_Refines_ok : ∀ (s1_ : (List Zb)) (s2_ : (List Zb)), ∀ r, Zq s1_ s2_ = some r → Zq.M s1_ s2_ r := Zbz.2.2.1
theorem slices_EqualFunc_Value_values_Refines_l1_ok : ∀ (s2_ : (List Zb)) (s1_ : (List Zb)) (Zdg : Nat) (ZaS : (List Zb)), ∀ r, Zl s2_ s1_ Zdg ZaS = some r → Zl.M s2_ s1_ Zdg ZaS r := Zbz.2.2.2

def Z0 (i_5 : Nat) (s : Zf) (e : Ze) (Zah : (List Ze)) : Option (Bool) :=
 (match Zah with
 | x18 :: Zps =>
 if ((x18.fCon.toList == e.fCon.toList) && ((x18.fN == e.fN) && true)) = true then
 some true
 else
 Z0 (i_5 + 1) s e Zps
 | [] =>
 some s.fAll)
 partial_fixpoint
def Z0.M (i_5 : Nat) (s : Zf) (e : Ze) (Zah : (List Ze)) (r : Bool) : Prop :=
 ∀ ZbJ : List Ze, s.fList = ZbJ ++ Zah → i_5 = ZbJ.length → AWL Tryd.prog 22 (Code.sub (ZF Tryd.f34) [1, 0, 1, 0, 0]) (Code.cont Tryd.prog 22 (ZF Tryd.f34) [1, 0, 1, 0] (ZcP tab Tryd.f34.results (Zde (.c none (.v (.bool r))) []))) ⟨[(2, .ptr 2 0), (3, .ptr 3 0), (5, .c none (.v (.int .i64 ((i_5 : Nat) : Int))))], [(2, [(none, .v (.bool s.fAll)), (none, .sl (s.fList.map Ze.cells))]), (3, [(none, .v (.string e.fCon)), (none, .v (.int .i64 e.fN))])]⟩
theorem Zfr (i_5 : Nat) (s : Zf) (e : Ze) (Zah : (List Ze)) : ∀ r, Z0 i_5 s e Zah = some r → Z0.M i_5 s e Zah r := by
 refine Z0.partial_correctness s e (fun i_5 Zah r => Z0.M i_5 s e Zah r) ?_ i_5 Zah
 intro lazycref25_Has_l1' ZcQ i_5 Zah r hF
 have Zfe := fun (i_5 : Nat) (_s : Zf) (_e : Ze) (Zah : (List Ze)) => ZcQ i_5 Zah
 clear ZcQ
 unfold Z0.M
 intro ZbJ Zfu ZfA
 refine AWL.step ?_
 refine AWP.seq ?_
 refine AWP.seq ?_
 refine ns ?_
 intro hlen17
 (try rw [List.length_map] at hlen17)
 (try rw [List.length_map])
 refine st ?_
 refine nw ?_
 refine Z6 Zfu ZfA (fun x18 Zps Zp2 Zrv Zr6 => ?_) (fun Zp2 => ?_)
 ·subst Zp2
  refine nw ?_
  refine AWP.seq ?_
  refine AWP.block ?_
  refine AWP.seq ?_
  refine nn ?_
  refine Or.inl (Exists.intro 6 (Exists.intro [[], [], [], [], [], []] (Exists.intro [([13, 14, 15, 16, 17, 18], [], []), ([14, 15, 16, 17, 18], [], []), ([13, 14, 15, 16, 17, 18], [], []), ([16, 17, 18], [], []), ([17, 18], [], []), ([13, 14, 15, 16, 17, 18], [], [])] (Exists.intro [13, 14, 15, 16, 17, 18] (And.intro (by decide +kernel) ?_)))))
  refine dp ?_
  refine dp ?_
  refine dp ?_
  refine dr (ZaD (Ze.cells_eq x18) Zrv) ?_
  refine dp ?_
  refine dp ?_
  refine st ?_
  refine nw ?_
  refine Zp hF (fun ZlP hF => ?_) (fun ZlP hF => ?_)
  ·refine AWP.seq ?_
   refine ns ?_
   obtain rfl := Zg hF
   refine ns ?_
   refine Exists.intro [] ?_
   refine st ?_
   exact wx (WS.mk (tc Zd) Zc)
  ·refine nw ?_
   refine ns ?_
   refine AWL.weak (rn []) ?_ (Zfe (i_5 + 1) s e Zps _ hF (ZbJ ++ [x18]) (by rw [Zfu]; simp) (by rw [ZfA]; simp))
   exact (WS.mk (tp (tp (Za (Zy (Zd2 (Zau hlen17 Zr6))) Zd))) (Zi rfl (cc (cc Zk)) (Zi rfl (cc (cc Zk)) Zc)))
 ·subst Zp2
  refine nw ?_
  refine AWP.seq ?_
  refine ns ?_
  obtain rfl := Zg hF
  refine ns ?_
  refine Exists.intro [] ?_
  refine st ?_
  exact wx (WS.mk (tc Zd) Zc)

def ZaG (s : Zf) (e : Ze) : Option (Bool) :=
 Z0 0 s e s.fList
def ZaG.M (s : Zf) (e : Ze) (r : Bool) : Prop :=
 Zj Tryd.prog 34 [.agg [.v (.bool s.fAll), .sl (s.fList.map Ze.cells)], .agg [.v (.string e.fCon), .v (.int .i64 e.fN)]] [] (fun d b => d = .c none (.v (.bool r)) ∧ b = [])
theorem Zd6 (s : Zf) (e : Ze) (r : Bool) (hF : ZaG s e = some r) : ZaG.M s e r := by
 unfold ZaG at hF
 unfold ZaG.M
 refine en Tryd.func34 ?_
 refine AWP.seq ?_
 refine ns ?_
 refine AWP.seq ?_
 refine AWP.seq ?_
 refine ns ?_
 refine AWP.block ?_
 refine AWP.loop ?_
 refine AWL.weak (rn []) ?_ (Zfr 0 s e s.fList _ hF ([]) rfl rfl)
 exact (WS.mk (tp (tp (tc Zd))) (Zi rfl (cc (cc Zk)) (Zi rfl (cc (cc Zk)) Zc)))

def ZD (i_5 : Nat) (a : Zf) (b : Zf) (Zah : (List Ze)) : Option (Bool) :=
 (match Zah with
 | x25 :: ZlN =>
 ZaG b x25 >>= fun r29 =>
 if (!r29) = true then
 some false
 else
 ZD (i_5 + 1) a b ZlN
 | [] =>
 some true)
 partial_fixpoint
def ZD.M (i_5 : Nat) (a : Zf) (b : Zf) (Zah : (List Ze)) (r : Bool) : Prop :=
 ∀ ZbJ : List Ze, a.fList = ZbJ ++ Zah → i_5 = ZbJ.length → AWL Tryd.prog 29 (Code.sub (ZF Tryd.f36) [1, 1, 0, 1, 0, 0]) (Code.cont Tryd.prog 29 (ZF Tryd.f36) [1, 1, 0, 1, 0] (ZcP tab Tryd.f36.results (Zde (.c none (.v (.bool r))) []))) ⟨[(2, .ptr 2 0), (3, .ptr 3 0), (5, .c none (.v (.int .i64 ((i_5 : Nat) : Int))))], [(2, [(none, .v (.bool a.fAll)), (none, .sl (a.fList.map Ze.cells))]), (3, [(none, .v (.bool b.fAll)), (none, .sl (b.fList.map Ze.cells))])]⟩
theorem ZeB (i_5 : Nat) (a : Zf) (b : Zf) (Zah : (List Ze)) : ∀ r, ZD i_5 a b Zah = some r → ZD.M i_5 a b Zah r := by
 refine ZD.partial_correctness a b (fun i_5 Zah r => ZD.M i_5 a b Zah r) ?_ i_5 Zah
 intro lazycref25_Within_l1' Zb7 i_5 Zah r hF
 have Zes := fun (i_5 : Nat) (_a : Zf) (_b : Zf) (Zah : (List Ze)) => Zb7 i_5 Zah
 clear Zb7
 unfold ZD.M
 intro ZbJ Zfu ZfA
 refine AWL.step ?_
 refine AWP.seq ?_
 refine AWP.seq ?_
 refine ns ?_
 intro hlen24
 (try rw [List.length_map] at hlen24)
 (try rw [List.length_map])
 refine st ?_
 refine nw ?_
 refine Z6 Zfu ZfA (fun x25 ZlN ZlB Zp3 ZpK => ?_) (fun ZlB => ?_)
 ·subst ZlB
  refine nw ?_
  refine AWP.seq ?_
  refine AWP.block ?_
  refine AWP.seq ?_
  obtain ⟨r29, Zl2, hF⟩ := bind_some hF
  refine nn ?_
  refine Or.inl (Exists.intro 6 (Exists.intro [[], [], [], [], [], []] (Exists.intro [([21, 22, 23, 24, 25, 26], [], []), ([21, 22, 23, 24, 25, 26], [], []), ([21, 23, 24, 25, 26], [], []), ([21, 22, 23, 24, 25, 26], [], []), ([21, 25, 26], [], []), ([21, 26], [], [])] (Exists.intro [21, 22, 23, 24, 25, 26] (And.intro (by decide +kernel) ?_)))))
  refine dp ?_
  refine dp ?_
  refine dp ?_
  refine dp ?_
  refine dr (ZaD (Ze.cells_eq x25) Zp3) ?_
  refine dp ?_
  refine st ?_
  refine e3 ?_
  refine st ?_
  refine cm (Zj.weak (rn []) (Zd6 b x25 _ Zl2) rfl (WS.mk (Za (Zo (lc (lc Zm))) (Za (Zo (lc (lc Zm))) Zd)) Zc)) ?_
  refine st ?_
  refine nw ?_
  refine Zp hF (fun ZfD hF => ?_) (fun ZfD hF => ?_)
  ·refine AWP.seq ?_
   refine ns ?_
   obtain rfl := Zg hF
   refine ns ?_
   refine Exists.intro [] ?_
   refine st ?_
   exact wx (WS.mk (tc Zd) Zc)
  ·refine nw ?_
   refine ns ?_
   refine AWL.weak (rn []) ?_ (Zes (i_5 + 1) a b ZlN _ hF (ZbJ ++ [x25]) (by rw [Zfu]; simp) (by rw [ZfA]; simp))
   exact (WS.mk (tp (tp (Za (Zy (Zd2 (Zau hlen24 ZpK))) Zd))) (Zi rfl (cc (cc Zk)) (Zi rfl (cc (cc Zk)) Zc)))
 ·subst ZlB
  refine nw ?_
  refine AWP.seq ?_
  refine ns ?_
  obtain rfl := Zg hF
  refine ns ?_
  refine Exists.intro [] ?_
  refine st ?_
  exact wx (WS.mk (tc Zd) Zc)

def Zat (a : Zf) (b : Zf) : Option (Bool) :=
 if (a.fAll || b.fAll) = true then
 some b.fAll
 else
 ZD 0 a b a.fList
def Zat.M (a : Zf) (b : Zf) (r : Bool) : Prop :=
 Zj Tryd.prog 36 [.agg [.v (.bool a.fAll), .sl (a.fList.map Ze.cells)], .agg [.v (.bool b.fAll), .sl (b.fList.map Ze.cells)]] [] (fun d b => d = .c none (.v (.bool r)) ∧ b = [])
theorem Zfj (a : Zf) (b : Zf) (r : Bool) (hF : Zat a b = some r) : Zat.M a b r := by
 unfold Zat at hF
 unfold Zat.M
 refine en Tryd.func36 ?_
 refine AWP.seq ?_
 refine ns ?_
 refine AWP.seq ?_
 refine AWP.seq ?_
 refine AWP.cutN (fun T => ∃ r, WS r T ⟨[(2, .ptr 2 0), (3, .ptr 3 0), (11, .c none (.v (.bool (a.fAll || b.fAll))))], [(2, [(none, .v (.bool a.fAll)), (none, .sl (a.fList.map Ze.cells))]), (3, [(none, .v (.bool b.fAll)), (none, .sl (b.fList.map Ze.cells))])]⟩) ?_ (fun T hw => ?_)
 ·refine ns ?_
  refine Zh false (fun hc2 => ?_) (fun hc2 => ?_)
  ·(conv => whnf)
   refine st ?_
   exact wx (WS.mk (tp (tp (Za (Zy (web hc2)) Zd))) (Zi rfl (cc (cc Zk)) (Zi rfl (cc (cc Zk)) Zc)))
  ·(conv => whnf)
   refine st ?_
   exact wx (WS.mk (tp (tp (Za (Zy (web hc2)) Zd))) (Zi rfl (cc (cc Zk)) (Zi rfl (cc (cc Zk)) Zc)))
 obtain ⟨r0, hw⟩ := hw
 (conv => whnf)
 refine AWP.weak r0 hw ?_
 refine nw ?_
 refine Zp hF (fun hc3 hF => ?_) (fun hc3 hF => ?_)
 ·refine AWP.seq ?_
  refine ns ?_
  obtain rfl := Zg hF
  refine ns ?_
  refine Exists.intro [] ?_
  refine st ?_
  exact wx (WS.mk (tc Zd) Zc)
 ·refine nw ?_
  refine AWP.seq ?_
  refine AWP.seq ?_
  refine ns ?_
  refine AWP.block ?_
  refine AWP.loop ?_
  refine AWL.weak (rn []) ?_ (ZeB 0 a b a.fList _ hF ([]) rfl rfl)
  exact (WS.mk (tp (tp (tc Zd))) (Zi rfl (cc (cc Zk)) (Zi rfl (cc (cc Zk)) Zc)))

theorem Z5 {α β : Type} (x : α) (f : α → Option β) : (some x >>= f) = f x := rfl
theorem ZcD {p : Prop} [Decidable p] {β : Type} (f : Unit → Option β) (h : p) : (ZaF p >>= f) = f () := by unfold ZaF; rw [if_pos h]; rfl
def ZdT (a b : Ze) : Bool := (a.fCon.toList == b.fCon.toList) && ((a.fN == b.fN) && true)
theorem Zlv (a b : Ze) : ZdT a b = ZdT b a := by
 unfold ZdT
 have h1 : (a.fCon.toList == b.fCon.toList) = (b.fCon.toList == a.fCon.toList) := by rw [Bool.eq_iff_iff, beq_iff_eq, beq_iff_eq]; exact eq_comm
 have h2 : (a.fN == b.fN) = (b.fN == a.fN) := by rw [Bool.eq_iff_iff, beq_iff_eq, beq_iff_eq]; exact eq_comm
 rw [h1, h2]
def Zd3 (s : Zf) (e : Ze) : Bool := s.fAll || s.fList.any (ZdT e)
theorem Zmw (s : List Ze) (v : Ze) : ∀ (l : List Ze) (k : Nat), ∃ r, ZL s k v l = some r ∧ decide (r ≥ 0) = l.any (ZdT v)
 | [], k => ⟨-1, by rw [ZL], rfl⟩
 | x :: l, k => by
  rw [ZL, List.any_cons]
  by_cases h : ZdT v x = true
  ·exact ⟨_, if_pos h, by rw [h]; simp⟩
  ·obtain ⟨r, h1, h2⟩ := Zmw s v l (k + 1)
   exact ⟨r, (if_neg h).trans h1, by rw [h2, Bool.eq_false_iff.2 h]; rfl⟩
theorem ZkV (s : List Ze) (e : Ze) : Zak s e = some (s.any (ZdT e)) := by
 obtain ⟨r, h1, h2⟩ := Zmw s e s 0
 rw [Zak, ZaP, h1, Z5, h2]
theorem Zl7 (s : Zf) (e : Ze) : ZaO s e = some (Zd3 s e) := by
 rw [ZaO, ZkV]
 unfold Zd3
 cases s.fAll <;> rfl
theorem Zoz (s : Zf) (e : Ze) : ∀ (l : List Ze) (k : Nat), Z0 k s e l = some (s.fAll || l.any (ZdT e))
 | [], k => by rw [Z0]; simp
 | x :: l, k => by
  rw [Z0, List.any_cons, Zoz s e l]
  show (if ZdT x e = true then _ else _) = _
  rw [Zlv]
  cases ZdT e x
  ·simp
  ·simp
theorem ZmI (s : Zf) (e : Ze) : ZaG s e = some (Zd3 s e) := by rw [ZaG, Zoz]; rfl
def ZcI (a b : Zf) : Bool := if a.fAll || b.fAll then b.fAll else a.fList.all (Zd3 b)
theorem Zk9 (a b : Zf) : ∀ (l : List Ze) (k : Nat), Zaa a k b l = some (l.all (Zd3 b))
 | [], k => by rw [Zaa]; rfl
 | x :: l, k => by
  rw [Zaa, List.all_cons, Zk9 a b l, Zl7, Z5]
  cases Zd3 b x <;> rfl
theorem Zhc (a b : Zf) : Zax a b = some (ZcI a b) := by
 rw [Zax, Zk9]; unfold ZcI; split <;> rfl
theorem Zjx (a b : Zf) : ∀ (l : List Ze) (k : Nat), ZD k a b l = some (l.all (Zd3 b))
 | [], k => by rw [ZD]; rfl
 | x :: l, k => by
  rw [ZD, List.all_cons, Zjx a b l, ZmI, Z5]
  cases Zd3 b x <;> rfl
theorem Zly (a b : Zf) : Zat a b = some (ZcI a b) := by
 rw [Zat, Zjx]; unfold ZcI; split <;> rfl
mutual
def Znl : Zb → Zb → Bool
 | .mk op name n kids set, b =>
  if ((b.fOp == 6) || ((b.fOp == 5) && b.fSet.fAll)) = true then true
  else if (op != b.fOp) = true then false
  else if (b.fOp == 1) = true then n == b.fN
  else if (b.fOp == 2) = true then n == b.fN
  else if (b.fOp == 4) = true then true
  else if (b.fOp == 5) = true then ZcI set b.fSet
  else if (b.fOp == 3) = true then (name.toList == b.fName.toList) && Zi3 kids b.fKids
  else false
def Zi3 : List Zb → List Zb → Bool
 | [], [] => true
 | x :: xs, y :: ys => Znl x y && Zi3 xs ys
 | _, _ => false
end
theorem ZkJ : ∀ l m, l.length ≠ m.length → Zi3 l m = false
 | [], [], h => absurd rfl h
 | x :: xs, y :: ys, h => by rw [Zi3, ZkJ xs ys (by simpa using h), Bool.and_false]
 | [], _ :: _, _ => by simp [Zi3]
 | _ :: _, [], _ => by simp [Zi3]
theorem ZoQ (a b : Zb) : Znl a b =
  if ((b.fOp == 6) || ((b.fOp == 5) && b.fSet.fAll)) = true then true
  else if (a.fOp != b.fOp) = true then false
  else if (b.fOp == 1) = true then a.fN == b.fN
  else if (b.fOp == 2) = true then a.fN == b.fN
  else if (b.fOp == 4) = true then true
  else if (b.fOp == 5) = true then ZcI a.fSet b.fSet
  else if (b.fOp == 3) = true then (a.fName.toList == b.fName.toList) && Zi3 a.fKids b.fKids
  else false := by cases a; rw [Znl]; rfl
theorem Zj6 {α : Type} {l pre post : List α} {x : α} {k : Nat} (h : l = pre ++ x :: post) (hk : k = pre.length) : l[k]? = some x := by subst h hk; simp
theorem Zqx (s1 s2 : List Zb) : ∀ (post post' pre' : List Zb) (k : Nat), (∀ x ∈ post, ∀ y, Z3 x y = some (Znl x y)) → s2 = pre' ++ post' → k = pre'.length → post.length = post'.length →
  Zl s2 s1 k post = some (Zi3 post post')
 | [], [], pre', k, _, _, _, _ => by rw [Zl, Zi3]
 | x :: post, y :: post', pre', k, h, h2, hk, hl => by
  rw [Zl, Zi3]
  simp only [Zj6 h2 hk, Z5, h x (by simp) y]
  cases Znl x y
  ·rfl
  ·show Zl s2 s1 (k + 1) post = _
   rw [Zqx s1 s2 post post' (pre' ++ [y]) (k + 1) (fun z hz => h z (by simp [hz])) (by rw [h2]; simp) (by rw [hk]; simp) (by simpa using hl)]; rfl
 | [], _ :: _, _, _, _, _, _, hl => by simp at hl
 | _ :: _, [], _, _, _, _, _, hl => by simp at hl
theorem Zl1 : ∀ a b : Zb, Z3 a b = some (Znl a b) := by
 refine Zb.ind fun a ih b => ?_
 have hk : ∀ t, ZZ b t a = if t = true then some (a.fN == b.fN) else some (if (b.fOp == 4) = true then true else if (b.fOp == 5) = true then ZcI a.fSet b.fSet else if (b.fOp == 3) = true then (a.fName.toList == b.fName.toList) && Zi3 a.fKids b.fKids else false) := by
  intro t
  rw [ZZ, Zhc]
  by_cases h0 : t = true
  ·rw [if_pos h0, if_pos h0]
  rw [if_neg h0, if_neg h0]
  by_cases h4 : (b.fOp == 4) = true
  ·rw [if_pos h4, if_pos h4]
  rw [if_neg h4, if_neg h4]
  by_cases h5 : (b.fOp == 5) = true
  ·rw [if_pos h5, if_pos h5]; rfl
  rw [if_neg h5, if_neg h5]
  by_cases h3 : (b.fOp == 3) = true
  ·rw [if_pos h3, if_pos h3]
   by_cases hn : (a.fName.toList == b.fName.toList) = true
   ·rw [if_pos hn, hn, Zq, Bool.true_and]
    by_cases hl : a.fKids.length = b.fKids.length
    ·rw [if_neg (by simp [hl]), Zqx a.fKids b.fKids a.fKids b.fKids [] 0 ih rfl rfl hl]; rfl
    ·rw [if_pos (by rw [bne_iff_ne]; omega), ZkJ _ _ hl]; rfl
   ·rw [if_neg hn, Bool.eq_false_iff.2 hn]; rfl
  ·rw [if_neg h3, if_neg h3]
 rw [Z3, ZoQ, hk, hk]
 by_cases h6 : ((b.fOp == 6) || ((b.fOp == 5) && b.fSet.fAll)) = true
 ·rw [if_pos h6, if_pos h6]
 rw [if_neg h6, if_neg h6]
 by_cases ho : (a.fOp != b.fOp) = true
 ·rw [if_pos ho, if_pos ho]
 rw [if_neg ho, if_neg ho]
 by_cases h1 : (b.fOp == 1) = true
 ·rw [if_pos h1, if_pos h1, if_pos h1]
 rw [if_neg h1, if_neg h1]
 by_cases h2 : (b.fOp == 2) = true
 ·rw [if_pos h2, if_pos h2]
 ·rw [if_neg h2, if_neg h2]

def ZaX.M (n : Int) (r : (List Ze)) : Prop :=
 Zj Tryd.prog 77 [.c none (.nils), .c none (.v (.int .i64 n))] [] (fun d b => d = .c none (.rs 2000 r.length) ∧ b = [(2000, [(none, .ob 82 (r.map Ze.cells))])])
def Zr.M (x : (List Ze)) (r : (List Ze)) : Prop :=
 Zj Tryd.prog 64 [.c none (.rs 1000 x.length), .c none (.v (.func (.func 65) #[] #[]))] [(1000, [(none, .ob 82 (x.map Ze.cells))])] (fun d b => d = .tup [] ∧ b = [(1000, [(none, .ob 82 (r.map Ze.cells))])])
def ZaM.M (s : (List Ze)) (r : (List Ze) × (List Ze)) : Prop :=
 Zj Tryd.prog 66 [.c none (.rs 1000 s.length)] [(1000, [(none, .ob 82 (s.map Ze.cells))])] (fun d b => d = .c none (.rs 1000 r.2.length) ∧ b = [(1000, [(none, .ob 82 (r.2.map Ze.cells))])])
def ZaQ.M (s : (List Ze)) (r : (List Ze)) : Prop :=
 Zj Tryd.prog 59 [.c none (.sl (s.map Ze.cells))] [] (fun d b => d = .c (some (0, 41)) (.sl (r.map Ze.cells)) ∧ b = [])
def strings_Join.M (elems : (List ByteArray)) (sep : ByteArray) (r : ByteArray) : Prop :=
 Zj Tryd.prog 54 [.c none (.sl (elems.map c_S)), .c none (.v (.string sep))] [] (fun d b => d = .c none (.v (.string r)) ∧ b = [])
def strings_Compare.M (a : ByteArray) (b : ByteArray) (r : Int) : Prop :=
 Zj Tryd.prog 80 [.c none (.v (.string a)), .c none (.v (.string b))] [] (fun d b => d = .c none (.v (.int .i64 r)) ∧ b = [])
def strconv_Itoa.M (i : Int) (r : ByteArray) : Prop :=
 Zj Tryd.prog 76 [.c none (.v (.int .i64 i))] [] (fun d b => d = .c none (.v (.string r)) ∧ b = [])

end Go.Proofs.YtafniolcakiljaaDoor
