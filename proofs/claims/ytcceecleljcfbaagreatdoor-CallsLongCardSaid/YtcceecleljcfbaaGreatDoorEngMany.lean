/- The abstract interpreter: maps of several entries. In functions that are named, all orders are gone through, and what they agree in stands. -/
import Derived.Test.YtcceecleljcfbaaGreatDoorEngTop
namespace Go.Eng
open Go.RowKit Go.ChangeShapes
set_option linter.unusedVariables false
noncomputable section
set_option linter.unusedSimpArgs false

/-! ### what is gone through -/
def manyNext (C : Cx) (e : E) (o : Oper) (s : St) : Option (List (Value × St)) :=
  match o.op with
  | .next it false => match e.eval C it with
    | some (.pointer (some ⟨r, 0, none⟩)) => match s.heap.get r with
      | some (.mIter (some m) since seen last) => match s.heap.get m with
        | some (.map es clock) =>
          bif !(seen.isEmpty || es.isEmpty) && es.all (fun e => Nat.ble last e.born) then none
          else match es.filter (fun e => !memN e.born seen) with
            | [] => none
            | a :: l => bif (a :: l).all (fun e => Nat.blt e.born since) then
                some ((a :: l).map fun e => (.tuple #[.bool true, e.key, e.val], { s with heap := s.heap.set r (.mIter (some m) since (seen ++ [e.born]) clock) }))
              else none
        | _ => none
      | _ => none
    | _ => none
  | _ => none

def nextM (k : E → FrameMode → St → List COut) : COut → List COut
  | .fin .normal e u s => k e u s
  | x => [x]
def thenM : List COut → (E → FrameMode → St → List COut) → List COut
  | [], _ => []
  | x :: r, k => nextM k x ++ thenM r k

def opM (C : Cx) (rec : Rec) (cf : Cf) (ops : List Oper) (o : Oper) (e : E) (u : FrameMode) (s : St) : List COut :=
  match wantedA ops e o with
  | some true => match manyNext C e o s with
    | some l => l.map fun p => match e.put o.dst p.1 with
      | some e => .fin .normal e u p.2
      | none => .fail
    | none => [opStep C rec cf ops o e u s]
  | _ => [opStep C rec cf ops o e u s]

def opsM (C : Cx) (rec : Rec) (cf : Cf) (ops : List Oper) : List Oper → E → FrameMode → St → List COut
  | [], e, u, s => [.fin .normal e u s]
  | o :: r, e, u, s => thenM (opM C rec cf ops o e u s) (opsM C rec cf ops r)

def iterM (body : E → FrameMode → St → List COut) : Nat → E → FrameMode → St → List COut
  | 0, _, _, _ => [.fail]
  | n + 1, e, u, s => thenM (body e u s) (iterM body n)

def noGoto : COut → COut
  | .fin (.goto _) _ _ _ => .fail
  | x => x

def codeM (C : Cx) (rec : Rec) (n : Nat) (cf : Cf) : Code → E → FrameMode → St → List COut
  | .region id ops draw, e, u, s => bif draw then [codeA C rec n cf (.region id ops draw) e u s] else opsM C rec cf ops.toList ops.toList e u s
  | .seq a b, e, u, s => thenM (codeM C rec n cf a e u s) (codeM C rec n cf b)
  | .cond c a b, e, u, s => match e.eval C c with
    | some (.bool true) => codeM C rec n cf a e u s
    | some (.bool false) => codeM C rec n cf b e u s
    | _ => [.fail]
  | .block id b, e, u, s => (codeM C rec n cf b e u s).map (inBlockA id)
  | .loop b, e, u, s => iterM (codeM C rec n cf b) n e u s
  | .scope b, e, u, s => (codeM C rec n cf b e u s).map noGoto
  | .skip, e, u, s => [codeA C rec n cf .skip e u s]
  | .label l, e, u, s => [codeA C rec n cf (.label l) e u s]
  | .rangeFunc f ps a b, e, u, s => [codeA C rec n cf (.rangeFunc f ps a b) e u s]
  | .exit id, e, u, s => [codeA C rec n cf (.exit id) e u s]
  | .goto l, e, u, s => [codeA C rec n cf (.goto l) e u s]
  | .ret, e, u, s => [codeA C rec n cf .ret e u s]
  | .refuse w, e, u, s => [.fail]

def endC (C : Cx) (rec : Rec) (fn : Func) (n : Nat) : COut → FOut
  | .fin .normal e u s => leaveA C rec fn u e n e.defers .returning s
  | .fin .ret e u s => leaveA C rec fn u e n e.defers .returning s
  | .fin (.panic chain) e u s => leaveA C rec fn u e n e.defers (.panicking chain) s
  | _ => .fail

def callM (C : Cx) (rec : Rec) (n : Nat) (f : FuncId) (args : List Value) (s : St) : List FOut :=
  match C.funcs.get f with
  | none => [.fail]
  | some fn => match fn.body with
    | none => [.fail]
    | some c =>
      bif Nat.ble args.length fn.ntmps then
        (codeM C rec n ⟨f, false, none⟩ c { tmps := argsT args 0 .nil, n := fn.ntmps, defers := [] } .run s).map (endC C rec fn n)
      else [.fail]

/-! ### what all agree in -/
def sameE : List MapEntry → List MapEntry → Bool
  | [], [] => true
  | a :: x, b :: y => sameV a.key b.key && sameV a.val b.val && Nat.beq a.born b.born && sameE x y
  | _, _ => false
def sameBlk : Blk → Blk → Bool
  | .map x c, .map y c' => sameE x y && Nat.beq c c'
  | .chan n x a b, .chan n' y a' b' => sameB (.chan n x a b) (.chan n' y a' b')
  | .deferred none, .deferred none => true
  | .deferred (some []), .deferred (some []) => true
  | _, _ => false
def agreeP : Option Nat → Option Nat → Option (Option Nat)
  | none, none => some none
  | some a, none => some (some a)
  | none, some b => some (some b)
  | some a, some b => bif Nat.beq a b then some (some a) else none
def agreeB : Blk → Blk → Option Blk
  | .cells x t s p, .cells y t' s' p' => bif sameL x y && Nat.beq t t' && Nat.beq s s' then
      match agreeP p p' with
      | some q => some (.cells x t s q)
      | none => none
    else none
  | a, b => bif sameBlk a b then some a else none
def agreeO : Option Blk → Option Blk → Option Blk
  | some a, some b => agreeB a b
  | _, _ => none
def agreeT : T Blk → T Blk → T Blk
  | .node l v r, .node l' v' r' => .node (agreeT l l') (agreeO v v') (agreeT r r')
  | _, _ => .nil
def agree2 : FOut → FOut → FOut
  | .returned v u s, .returned v' _ s' => bif sameV v v' && Nat.beq s.next s'.next then .returned v u { s with heap := agreeT s.heap s'.heap } else .fail
  | _, _ => .fail
def agree : FOut → List FOut → FOut
  | a, [] => a
  | a, b :: l => agree (agree2 a b) l
def agreeL : List FOut → FOut
  | [] => .fail
  | a :: l => agree a l

/-- over: what is known of some calls, by their arguments. -/
def callN (C : Cx) (over : FuncId → List Value → St → Option Value) (many : Nat → Bool) (rec : Rec) (n : Nat) (dfr : Bool) (f : FuncId) (args : List Value) (u : FrameMode) (s : St) : FOut :=
  match dfr with
  | true => callA C rec n true f args u s
  | false => match over f args s with
    | some v => .returned v u s
    | none => bif many f then agreeL (callM C rec n f args s) else callA C rec n false f args u s

def recM (C : Cx) (over : FuncId → List Value → St → Option Value) (many : Nat → Bool) : Nat → Rec
  | 0 => { call := fun _ _ _ _ _ => .fail, round := fun _ _ _ => .fail }
  | n + 1 => { call := callN C over many (recM C over many n) n, round := roundA C (recM C over many n) n }

def noOver : FuncId → List Value → St → Option Value := fun _ _ _ => none

/-! ### sound -/
theorem sameE_eq : ∀ {x y : List MapEntry}, sameE x y = true → x = y
  | [], [], _ => rfl
  | [], _ :: _, h => by simp [sameE] at h
  | _ :: _, [], h => by simp [sameE] at h
  | ⟨k, v, b⟩ :: x, ⟨k', v', b'⟩ :: y, h => by
    simp only [sameE, Bool.and_eq_true] at h
    rw [sameV_eq k k' h.1.1.1, sameV_eq v v' h.1.1.2, Nat.eq_of_beq_eq_true h.1.2, sameE_eq h.2]
theorem sameBlk_eq {x y : Blk} (h : sameBlk x y = true) : x = y := by
  unfold sameBlk at h
  split at h
  · simp only [Bool.and_eq_true] at h
    rw [sameE_eq h.1, Nat.eq_of_beq_eq_true h.2]
  · exact sameB_eq h
  · rfl
  · rfl
  · cases h
/-- x says no more than y. -/
def Wkr (x y : Blk) : Prop := y = x ∨ ∃ vs t st p, x = .cells vs t st p ∧ y = .cells vs t st none
theorem Wkr.refl (x : Blk) : Wkr x x := .inl rfl
theorem Wkr.trans {x y z : Blk} (h : Wkr x y) (g : Wkr y z) : Wkr x z := by
  rcases h with rfl | ⟨vs, t, st, p, rfl, rfl⟩
  · exact g
  · rcases g with rfl | ⟨vs', t', st', p', h1, rfl⟩
    · exact .inr ⟨_, _, _, _, rfl, rfl⟩
    · cases h1; exact .inr ⟨_, _, _, _, rfl, rfl⟩
theorem Wkr.write {x y : Blk} (h : Wkr x y) : writable y = writable x := by
  rcases h with rfl | ⟨vs, t, st, p, rfl, rfl⟩ <;> rfl
theorem Wkr.par {x y : Blk} (h : Wkr x y) {j : Nat} (hp : parOf y = some j) : parOf x = some j := by
  rcases h with rfl | ⟨vs, t, st, p, rfl, rfl⟩
  · exact hp
  · cases hp
theorem agreeP_some {p p' q : Option Nat} (h : agreeP p p' = some q) : (p = q ∨ p = none) ∧ (p' = q ∨ p' = none) := by
  unfold agreeP at h
  split at h
  · cases h; exact ⟨.inl rfl, .inl rfl⟩
  · cases h; exact ⟨.inl rfl, .inr rfl⟩
  · cases h; exact ⟨.inr rfl, .inl rfl⟩
  · rename_i a b
    cases hb : Nat.beq a b with
    | false => simp [hb] at h
    | true =>
      simp only [hb, cond_true, Option.some.injEq] at h
      subst h
      exact ⟨.inl rfl, .inl (by rw [Nat.eq_of_beq_eq_true hb])⟩
theorem agreeO_some {a b : Option Blk} {x : Blk} (h : agreeO a b = some x) : (∃ y, a = some y ∧ Wkr x y) ∧ ∃ y, b = some y ∧ Wkr x y := by
  unfold agreeO at h
  split at h
  · rename_i p q
    unfold agreeB at h
    split at h
    · rename_i x1 t s p1 y1 t' s' p1'
      cases hs : (sameL x1 y1 && Nat.beq t t' && Nat.beq s s') with
      | false => simp [hs] at h
      | true =>
        simp only [hs, cond_true] at h
        split at h
        · rename_i q1 hq
          simp only [Option.some.injEq] at h
          subst h
          simp only [Bool.and_eq_true] at hs
          have e1 := sameL_eq _ _ hs.1.1
          have e2 := Nat.eq_of_beq_eq_true hs.1.2
          have e3 := Nat.eq_of_beq_eq_true hs.2
          subst e1 e2 e3
          obtain ⟨h1, h2⟩ := agreeP_some hq
          refine ⟨⟨_, rfl, ?_⟩, ⟨_, rfl, ?_⟩⟩
          · rcases h1 with rfl | rfl
            · exact .inl rfl
            · exact .inr ⟨_, _, _, _, rfl, rfl⟩
          · rcases h2 with rfl | rfl
            · exact .inl rfl
            · exact .inr ⟨_, _, _, _, rfl, rfl⟩
        · cases h
    · cases hs : sameBlk p q with
      | false => simp [hs] at h
      | true =>
        simp only [hs, cond_true, Option.some.injEq] at h
        subst h
        exact ⟨⟨_, rfl, .inl rfl⟩, ⟨_, rfl, .inl (sameBlk_eq hs).symm⟩⟩
  · cases h
theorem agreeT_get : ∀ (a b : T Blk) (i : Nat) (x : Blk), (agreeT a b).get i = some x → (∃ y, a.get i = some y ∧ Wkr x y) ∧ ∃ y, b.get i = some y ∧ Wkr x y
  | .nil, _, i, x, h => by simp only [agreeT, T.get_nil] at h; cases h
  | .node _ _ _, .nil, i, x, h => by simp only [agreeT, T.get_nil] at h; cases h
  | .node l v r, .node l' v' r', i, x, h => by
    simp only [agreeT, T.get_node] at h
    simp only [T.get_node]
    cases i with
    | zero => exact agreeO_some h
    | succ m =>
      simp only at h ⊢
      split at h
      · rename_i hm; rw [if_pos hm, if_pos hm]; exact agreeT_get l l' _ _ h
      · rename_i hm; rw [if_neg hm, if_neg hm]; exact agreeT_get r r' _ _ h

/-- A heap that says no more. -/
def HLe (h h' : T Blk) : Prop := ∀ i x, h.get i = some x → ∃ y, h'.get i = some y ∧ Wkr x y
theorem HLe.refl (h : T Blk) : HLe h h := fun i x hx => ⟨x, hx, .refl x⟩
theorem HLe.trans {a b c : T Blk} (h : HLe a b) (g : HLe b c) : HLe a c := fun i x hx => by
  obtain ⟨y, hy, w⟩ := h i x hx
  obtain ⟨z, hz, w'⟩ := g i y hy
  exact ⟨z, hz, w.trans w'⟩

section
variable {C : Cx} {P : Program}

theorem Wkr.is {φ : Phi} {D : Nat → Prop} {w : World} {p : Pl} {x y : Blk} (h : Wkr x y) (hy : BlkIs C φ D w p y) : BlkIs C φ D w p x := by
  rcases h with rfl | ⟨vs, t, st, q, rfl, rfl⟩
  · exact hy
  · exact hy

/-- Blocks may be forgotten. -/
theorem Inv.forget {φ : Phi} {D : Nat → Prop} {s : St} {w : World} {h : T Blk} (hI : Inv C φ D s w) (hh : HLe h s.heap) : Inv C φ D { s with heap := h } w := by
  refine ⟨⟨fun i b hb => ?_, fun i b hb => ?_, fun i j bi bj hi hj hw he => ?_, hI.1.glob⟩, hI.2⟩
  · obtain ⟨y, hy, _⟩ := hh i b hb; exact hI.1.dom i y hy
  · obtain ⟨y, hy, hk⟩ := hh i b hb; exact hk.is (hI.1.blk i y hy)
  · obtain ⟨yi, hyi, ki⟩ := hh i bi hi
    obtain ⟨yj, hyj, kj⟩ := hh j bj hj
    rcases hI.1.sep i j yi yj hyi hyj (by rw [ki.write]; exact hw) he with h | h
    · exact .inl h
    · exact .inr (ki.par h)
theorem Ext.forget {φ φ' : Phi} {D D' : Nat → Prop} {h0 h1 h : T Blk} {w w' : World} (hx : Ext φ D h0 w φ' D' h1 w') (hh : HLe h h1) : Ext φ D h0 w φ' D' h w' :=
  ⟨hx.dom, hx.phi, hx.size, hx.os, hx.tape, hx.output, hx.frame, fun i bi hi hw => by
      obtain ⟨y, hy, k⟩ := hh i bi hi
      exact hx.range i y hy (by rw [k.write]; exact hw), fun i bi hi => by
      obtain ⟨y, hy, k⟩ := hh i bi hi
      exact hx.all i y hy⟩

/-- One thing holds less than another one. -/
def Less : FOut → FOut → Prop
  | .fail, _ => True
  | .returned v _ s, .returned v' _ s' => v = v' ∧ s.next = s'.next ∧ HLe s.heap s'.heap
  | a, b => a = b
theorem Less.refl : ∀ (a : FOut), Less a a
  | .fail => trivial
  | .returned _ _ _ => ⟨rfl, rfl, .refl _⟩
  | .panicked _ _ _ => rfl
theorem Less.trans {a b c : FOut} (h : Less a b) (g : Less b c) : Less a c := by
  cases a with
  | fail => trivial
  | returned v u s =>
    cases b with
    | returned v' u' s' =>
      cases c with
      | returned v2 u2 s2 => exact ⟨h.1.trans g.1, h.2.1.trans g.2.1, h.2.2.trans g.2.2⟩
      | fail => cases g
      | panicked _ _ _ => cases g
    | fail => cases h
    | panicked _ _ _ => cases h
  | panicked ch u s =>
    have e : FOut.panicked ch u s = b := h
    subst e; exact g
theorem agree2_less (a b : FOut) : Less (agree2 a b) a ∧ Less (agree2 a b) b := by
  cases a with
  | fail => exact ⟨trivial, trivial⟩
  | panicked _ _ _ => exact ⟨trivial, trivial⟩
  | returned v u s =>
    cases b with
    | fail => exact ⟨trivial, trivial⟩
    | panicked _ _ _ => exact ⟨trivial, trivial⟩
    | returned v' u' s' =>
      simp only [agree2]
      cases hs : (sameV v v' && Nat.beq s.next s'.next) with
      | false => exact ⟨trivial, trivial⟩
      | true =>
        rw [Bool.and_eq_true] at hs
        exact ⟨⟨rfl, rfl, fun i x hi => (agreeT_get _ _ i x hi).1⟩, ⟨sameV_eq _ _ hs.1, Nat.eq_of_beq_eq_true hs.2, fun i x hi => (agreeT_get _ _ i x hi).2⟩⟩
theorem agree_less : ∀ (l : List FOut) (a : FOut), Less (agree a l) a ∧ ∀ b ∈ l, Less (agree a l) b
  | [], a => ⟨Less.refl a, by intro b h; cases h⟩
  | c :: l, a => by
    obtain ⟨h1, h2⟩ := agree_less l (agree2 a c)
    obtain ⟨g1, g2⟩ := agree2_less a c
    refine ⟨h1.trans g1, ?_⟩
    intro b hb
    rcases List.mem_cons.1 hb with rfl | hb
    · exact h1.trans g2
    · exact h2 b hb
theorem agreeL_less (l : List FOut) : ∀ b ∈ l, Less (agreeL l) b := by
  cases l with
  | nil => intro b h; cases h
  | cons a l =>
    intro b hb
    rcases List.mem_cons.1 hb with rfl | hb
    · exact (agree_less l b).1
    · exact (agree_less l a).2 b hb

/-- One of several answers is what comes. -/
def OutM (C : Cx) (P : Program) (φ : Phi) (D : Nat → Prop) (s : St) (w : World) (m : Machine) (b : Frame) (k : List Item) (dfr : Bool) (cs : List Frame) (L : List COut) : Prop :=
  ∃ r ∈ L, Out C P φ D s w m b k dfr cs r

theorem thenM_norm {e : E} {u : FrameMode} {s : St} {k : E → FrameMode → St → List COut} {r' : COut} : ∀ {L : List COut}, COut.fin .normal e u s ∈ L → r' ∈ k e u s → r' ∈ thenM L k
  | [], h, _ => by cases h
  | x :: r, h, h' => by
    simp only [thenM]
    rcases List.mem_cons.1 h with rfl | h
    · exact List.mem_append_left _ h'
    · exact List.mem_append_right _ (thenM_norm h h')
theorem nextM_other {r' : COut} {k : E → FrameMode → St → List COut} (hn : ∀ e u s, r' ≠ .fin .normal e u s) : nextM k r' = [r'] := by
  cases r' with
  | fail => rfl
  | fin x e u s => cases x with
    | normal => exact absurd rfl (hn e u s)
    | _ => rfl
theorem thenM_other {r' : COut} {k : E → FrameMode → St → List COut} (hn : ∀ e u s, r' ≠ .fin .normal e u s) : ∀ {L : List COut}, r' ∈ L → r' ∈ thenM L k
  | [], h => by cases h
  | x :: r, h => by
    simp only [thenM]
    rcases List.mem_cons.1 h with rfl | h
    · refine List.mem_append_left _ ?_
      rw [nextM_other hn]; exact List.mem_singleton.2 rfl
    · exact List.mem_append_right _ (thenM_other hn h)

/-- One thing behind the other. -/
theorem OutM.bind {φ : Phi} {D : Nat → Prop} {s : St} {w : World} {m : Machine} {b : Frame} {i : Item} {k : List Item} {dfr : Bool} {cs : List Frame} {L : List COut} {g : E → FrameMode → St → List COut}
    (hi : i.plain = true) (h : OutM C P φ D s w m b (i :: k) dfr cs L)
    (hg : ∀ e u s1 φ1 D1 w1 a1, Inv C φ1 D1 s1 w1 → ERel φ1 D1 e a1 → okM D1 u → Ext φ D s.heap w φ1 D1 s1.heap w1 →
      OutM C P φ1 D1 s1 w1 (lone (fat b a1 (i :: k)) (csOf dfr φ1 u cs) w1) b k dfr cs (g e u s1)) :
    OutM C P φ D s w m b k dfr cs (thenM L g) := by
  obtain ⟨r, hr, ho⟩ := h
  cases r with
  | fail => exact ⟨.fail, thenM_other (by intro e u s h; cases h) hr, trivial⟩
  | fin x e1 u1 s1 =>
    obtain ⟨φ1, D1, w1, a1, h1, h2, h3, h4, h5, h6⟩ := ho
    cases x with
    | normal =>
      obtain ⟨r', hr', ho'⟩ := hg e1 u1 s1 φ1 D1 w1 a1 h1 h2 h3 h5
      exact ⟨r', thenM_norm hr hr', Out.trans h5 h6 ho'⟩
    | exit id => exact ⟨_, thenM_other (by intro e u s h; cases h) hr, φ1, D1, w1, a1, h1, h2, h3, h4, h5, .pass hi (by simp [denX]) h6⟩
    | goto l' => exact ⟨_, thenM_other (by intro e u s h; cases h) hr, φ1, D1, w1, a1, h1, h2, h3, h4, h5, .pass hi (by simp [denX]) h6⟩
    | ret => exact ⟨_, thenM_other (by intro e u s h; cases h) hr, φ1, D1, w1, a1, h1, h2, h3, h4, h5, .pass hi (by simp [denX]) h6⟩
    | panic ch => exact ⟨_, thenM_other (by intro e u s h; cases h) hr, φ1, D1, w1, a1, h1, h2, h3, h4, h5, .pass hi (by simp [denX]) h6⟩

theorem OutM.trans {φ φ1 : Phi} {D D1 : Nat → Prop} {s s1 : St} {w w1 : World} {m m1 : Machine} {b : Frame} {k : List Item} {dfr : Bool} {cs : List Frame} {L : List COut}
    (hx : Ext φ D s.heap w φ1 D1 s1.heap w1) (hs : Steps P m m1) (h : OutM C P φ1 D1 s1 w1 m1 b k dfr cs L) : OutM C P φ D s w m b k dfr cs L := by
  obtain ⟨r, hr, ho⟩ := h
  exact ⟨r, hr, Out.trans hx hs ho⟩
theorem OutM.one {φ : Phi} {D : Nat → Prop} {s : St} {w : World} {m : Machine} {b : Frame} {k : List Item} {dfr : Bool} {cs : List Frame} {r : COut}
    (h : Out C P φ D s w m b k dfr cs r) : OutM C P φ D s w m b k dfr cs [r] := ⟨r, List.mem_singleton.2 rfl, h⟩

theorem drawn_rel {φ : Phi} {D : Nat → Prop} {h : T Blk} {w : World} (hr : Rel C φ D h w) (n : Nat) : Rel C φ D h { w with drawn := n } ∧ Ext φ D h w φ D h { w with drawn := n } :=
  ⟨⟨hr.dom, fun i b hi => (hr.blk i b hi).mono (fun _ h => h) (fun _ _ => rfl) rfl, hr.sep, hr.glob⟩,
    ⟨fun _ h => h, fun _ _ => rfl, Nat.le_refl _, rfl, rfl, rfl, fun _ _ _ => rfl, fun i bi hi hw _ => ⟨i, bi, hi, hw, rfl⟩, fun i bi hi _ => ⟨i, bi, hi, rfl⟩⟩⟩

/-- The next entry is one of those that are left. -/
theorem many_next {φ : Phi} {D : Nat → Prop} {s : St} {w : World} {e : E} {a : Act} {o : Oper} {l : List (Value × St)} (hC : CxOk C P) (hI : Inv C φ D s w) (he : ERel φ D e a) (h : manyNext C e o s = some l) :
    (∀ c, o.op ≠ .defer c) ∧ ∃ p ∈ l, ∃ w', (execOp a.eval o).run P w = .ok (.value (den φ p.1)) w' ∧ Ok D p.1 ∧ Inv C φ D p.2 w' ∧ Ext φ D s.heap w φ D p.2.heap w' := by
  unfold manyNext at h
  split at h
  case h_2 => cases h
  rename_i it hop
  refine ⟨(by intro c hc; rw [hop] at hc; cases hc), ?_⟩
  split at h
  case h_2 => cases h
  rename_i r hev
  have hr := hI.1
  have hit := (eval_sound hC hr he hev).1
  split at h
  case h_2 => cases h
  rename_i m since seen last hb
  split at h
  case h_2 => cases h
  rename_i es clock hm
  obtain ⟨hmD, h0, h1⟩ := hr.blk r _ hb
  obtain ⟨hes, hm1⟩ := hr.blk m _ hm
  replace h := bool_split h; rcases h with ⟨_, h⟩ | ⟨hnot, h⟩
  · cases h
  split at h
  · cases h
  rename_i en rest hfil
  replace h := bool_split h; rcases h with ⟨hall, h⟩ | ⟨_, h⟩
  case inr => cases h
  simp only [Option.some.injEq] at h
  subst h
  simp only [Option.map_some] at h1
  have hcheck : (!seen.toArray.isEmpty && !(es.map (denE φ)).toArray.isEmpty && (es.map (denE φ)).toArray.all (fun e => decide (e.born ≥ last))) = false := by
    rw [← hnot]
    have e1 : (es.map (denE φ)).toArray.all (fun e => decide (e.born ≥ last)) = es.all (fun e => Nat.ble last e.born) := by
      rw [List.all_toArray, List.all_map]
      congr 1
      funext e
      simp only [Function.comp, denE]
      rw [Bool.eq_iff_iff]; simp [Nat.ble_eq]
    rw [e1]
    cases seen <;> cases es <;> simp
  have hleft : (es.map (denE φ)).toArray.filter (fun e => !seen.toArray.contains e.born) = ((es.filter fun e => !memN e.born seen).map (denE φ)).toArray := by
    rw [List.filter_toArray, List.filter_map]
    congr 3
    funext e
    simp only [Function.comp, denE, List.contains_toArray, memN_eq]
  -- those left are all old
  have hlt : ∀ x ∈ en :: rest, x.born < since := fun x hx => by
    have := List.all_eq_true.1 hall x hx
    simpa [blt_iff] using this
  have hold : ((en :: rest).map (denE φ)).toArray.filter (fun e => decide (e.born < since)) = ((en :: rest).map (denE φ)).toArray := by
    rw [List.filter_toArray, List.filter_eq_self.2]
    intro x hx
    obtain ⟨y, hy, rfl⟩ := List.mem_map.1 hx
    exact decide_eq_true (hlt y hy)
  have hnew : ((en :: rest).map (denE φ)).toArray.filter (fun e => decide (e.born ≥ since)) = #[] := by
    rw [List.filter_toArray, List.filter_eq_nil_iff.2]
    intro x hx
    obtain ⟨y, hy, rfl⟩ := List.mem_map.1 hx
    have := hlt y hy
    simp [denE]; omega
  obtain ⟨q, w1, hq, hch, hd⟩ : ∃ q w1, q < (en :: rest).length ∧ (choose (.mapNext (en :: rest).length)).run P w = .ok q w1 ∧ ∃ n, w1 = { w with drawn := n } := by
    rw [run_choose]
    by_cases hf : (Question.mapNext (en :: rest).length).forced = true
    · rw [if_pos hf]
      exact ⟨0, w, by simp, rfl, w.drawn, rfl⟩
    · rw [if_neg hf]
      refine ⟨_, _, ?_, rfl, _, rfl⟩
      simp only [Question.cut]
      exact Nat.mod_lt _ (by simp)
  obtain ⟨n, rfl⟩ := hd
  have hget : (en :: rest)[q]? = some (en :: rest)[q] := List.getElem?_eq_getElem hq
  generalize (en :: rest)[q] = x at hget
  have hx : x ∈ en :: rest := List.mem_of_getElem? hget
  have hmem : x ∈ es := by
    have : x ∈ es.filter fun e => !memN e.born seen := by rw [hfil]; exact hx
    exact (List.mem_filter.1 this).1
  obtain ⟨hr', hx'⟩ := drawn_rel hr n
  have hb1 : ({ w with drawn := n } : World).heap[(φ r).block]? = some (.mapIter (some (φ m).block) since seen.toArray last) := h1
  have hset := Rel.setObj (o := .mapIter (some (φ m).block) since (seen ++ [x.born]).toArray clock) hr' hb rfl rfl rfl (b' := .mIter (some m) since (seen ++ [x.born]) clock) ⟨fun i hi => hmD i hi, h0, setB_same (heap_lt hb1)⟩
  refine ⟨_, List.mem_map.2 ⟨x, hx, rfl⟩, setB { w with drawn := n } (φ r).block (.mapIter (some (φ m).block) since (seen ++ [x.born]).toArray clock), ?_, ok_tup3 (by simp [Ok]) (hes x hmem).1 (hes x hmem).2, ⟨hset.1, hI.2⟩, hx'.trans hset.2⟩
  have hrun : (Instr.next (.pointer (some ⟨(φ r).block, 0, none⟩)) false o.type).run P w = .ok (.tuple #[.bool true, den φ x.key, den φ x.val]) (setB { w with drawn := n } (φ r).block (.mapIter (some (φ m).block) since (seen ++ [x.born]).toArray clock)) := by
    have hc2 : (((en :: rest).map (denE φ)).toArray.map some)[q]? = some (some (denE φ x)) := by
      rw [Array.getElem?_map, List.getElem?_toArray, List.getElem?_map, hget]; rfl
    simp only [Instr.next, Sem.run_bind, run_getObj h1 (by intro _ _ _ h; cases h), Result.andThen_ok, run_getObj hm1 (by intro _ _ _ h; cases h), hcheck, Bool.false_eq_true, if_false, Sem.run_pure, hleft, hfil]
    rw [hold, hnew]
    have he0 : ((en :: rest).map (denE φ)).toArray.isEmpty = false := by simp
    rw [he0]
    simp only [Bool.false_eq_true, if_false, Array.append_empty, Array.empty_append]
    have hsz : (Array.map some ((en :: rest).map (denE φ)).toArray).size = (en :: rest).length := by simp
    rw [hsz, hch]
    simp only [Result.andThen_ok, hc2, Sem.run_bind, run_setObj hb1 (by intro _ _ _ h; cases h), Sem.run_pure]
    simp [denE]
  have hit2 : a.eval it = .pointer (some ⟨(φ r).block, 0, none⟩) := by rw [hit]; simp [den, h0]
  simp only [execOp, hop, hit2, Sem.run_bind, hrun, Result.andThen_ok, Sem.run_pure]
  rw [den_tup3]; simp [den]

theorem opM_sound (hC : CxOk C P) {rec : Rec} (hrec : RecOk C P rec) {φ : Phi} {D : Nat → Prop} {s : St} {w : World} {e : E} {a : Act} {cf : Cf} {ops : Array Oper} {i : Nat} {rest : List Nat} {o : Oper} (ho : ops[i]? = some o)
    {u : FrameMode} {b : Frame} {k : List Item} {cs : List Frame} (hI : Inv C φ D s w) (he : ERel φ D e a) (hu : okM D u) (hB : BOk φ D cf b) (hcs : cf.dfr = true → cs ≠ []) :
    OutM C P φ D s w (lone (fat b a (.inRegion ops (i :: rest) :: k)) (csOf cf.dfr φ u cs) w) b (.inRegion ops rest :: k) cf.dfr cs (opM C rec cf ops.toList o e u s) := by
  unfold opM
  split
  · rename_i hwant
    split
    · rename_i l hl
      obtain ⟨hdc, p, hp, w', hrun, hok, hI', hx⟩ := many_next hC hI he hl
      have hw := wanted_sound he hwant
      refine ⟨_, List.mem_map.2 ⟨p, hp, rfl⟩, ?_⟩
      cases hput : e.put o.dst p.1 with
      | none => trivial
      | some e2 => exact ⟨φ, D, w', _, hI', he.put hok hput, hu, trivial, hx, .one (go_value ho hw (.inr hdc) hrun)⟩
    · exact .one (opStep_sound hC hrec ho hI he hu hB hcs)
  · exact .one (opStep_sound hC hrec ho hI he hu hB hcs)

theorem opsM_sound (hC : CxOk C P) {rec : Rec} (hrec : RecOk C P rec) {cf : Cf} {ops : Array Oper} {b : Frame} {k : List Item} {cs : List Frame} (hcs : cf.dfr = true → cs ≠ []) :
    ∀ (l : List Oper) (i : Nat) (φ : Phi) (D : Nat → Prop) (s : St) (w : World) (e : E) (a : Act) (u : FrameMode), (∀ j o, l[j]? = some o → ops[i + j]? = some o) →
      Inv C φ D s w → ERel φ D e a → okM D u → BOk φ D cf b →
      OutM C P φ D s w (lone (fat b a (.inRegion ops (List.range' i l.length) :: k)) (csOf cf.dfr φ u cs) w) b k cf.dfr cs (opsM C rec cf ops.toList l e u s)
  | [], i, φ, D, s, w, e, a, u, hl, hI, he, hu, hB => .one ⟨φ, D, w, a, hI, he, hu, trivial, Ext.refl .., .one go_region_end⟩
  | o :: r, i, φ, D, s, w, e, a, u, hl, hI, he, hu, hB => by
    have ho : ops[i]? = some o := by simpa using hl 0 o rfl
    have hr' : List.range' i (o :: r).length = i :: List.range' (i + 1) r.length := by simp [List.range']
    rw [hr']
    simp only [opsM]
    refine OutM.bind (i := .inRegion ops (List.range' (i + 1) r.length)) rfl (opM_sound hC hrec ho hI he hu hB hcs) ?_
    intro e1 u1 s1 φ1 D1 w1 a1 h1 h2 h3 h5
    exact opsM_sound hC hrec (k := k) hcs r (i + 1) φ1 D1 s1 w1 e1 a1 u1 (fun j o' hj => by
      have := hl (j + 1) o' (by simpa using hj)
      rw [show i + 1 + j = i + (j + 1) from by omega]; exact this) h1 h2 h3 (hB.mono h5.dom h5.phi)

def CodeMOk (C : Cx) (P : Program) (rec : Rec) (n : Nat) (c : Code) : Prop :=
  ∀ (cf : Cf) (φ : Phi) (D : Nat → Prop) (s : St) (w : World) (e : E) (a : Act) (u : FrameMode) (b : Frame) (k : List Item) (cs : List Frame), (cf.dfr = true → cs ≠ []) →
    Inv C φ D s w → ERel φ D e a → okM D u → BOk φ D cf b →
    OutM C P φ D s w (lone (fat b a (.code c :: k)) (csOf cf.dfr φ u cs) w) b k cf.dfr cs (codeM C rec n cf c e u s)

theorem iterM_sound {rec : Rec} {n : Nat} {body : Code} (hb : CodeMOk C P rec n body) {cf : Cf} {b : Frame} {k : List Item} {cs : List Frame} (hcs : cf.dfr = true → cs ≠ []) :
    ∀ (m : Nat) (φ : Phi) (D : Nat → Prop) (s : St) (w : World) (e : E) (a : Act) (u : FrameMode), Inv C φ D s w → ERel φ D e a → okM D u → BOk φ D cf b →
      OutM C P φ D s w (lone (fat b a (.code body :: .inLoop body :: k)) (csOf cf.dfr φ u cs) w) b k cf.dfr cs (iterM (codeM C rec n cf body) m e u s)
  | 0, φ, D, s, w, e, a, u, _, _, _, _ => ⟨.fail, List.mem_singleton.2 rfl, trivial⟩
  | m + 1, φ, D, s, w, e, a, u, hI, he, hu, hB => by
    simp only [iterM]
    refine OutM.bind (i := .inLoop body) rfl (hb cf φ D s w e a u b (.inLoop body :: k) cs hcs hI he hu hB) ?_
    intro e1 u1 s1 φ1 D1 w1 a1 h1 h2 h3 h5
    exact OutM.trans (Ext.refl ..) (.one go_inLoop) (iterM_sound hb hcs (k := k) m φ1 D1 s1 w1 e1 a1 u1 h1 h2 h3 (hB.mono h5.dom h5.phi))

theorem codeM_sound (hC : CxOk C P) {rec : Rec} (hrec : RecOk C P rec) (hdraw : DrawOk C P rec) (n : Nat) : ∀ (c : Code), CodeMOk C P rec n c
  | .region id ops d => fun cf φ D s w e a u b k cs hcs hI he hu hB => by
    cases d with
    | true => exact .one (code_sound hC hrec hdraw n (.region id ops true) cf φ D s w e a u b k cs hcs hI he hu hB)
    | false =>
      have := opsM_sound hC hrec (k := k) hcs ops.toList 0 φ D s w e a u (fun j o hj => by simpa using hj) hI he hu hB
      rw [Array.length_toList, ← List.range_eq_range'] at this
      exact OutM.trans (Ext.refl ..) (.one go_region) this
  | .seq x y => fun cf φ D s w e a u b k cs hcs hI he hu hB => by
    have h := codeM_sound hC hrec hdraw n x cf φ D s w e a u b (.code y :: k) cs hcs hI he hu hB
    simp only [codeM]
    refine OutM.bind (i := .code y) rfl (OutM.trans (Ext.refl ..) (.one go_seq) h) ?_
    intro e1 u1 s1 φ1 D1 w1 a1 h1 h2 h3 h5
    exact codeM_sound hC hrec hdraw n y cf φ1 D1 s1 w1 e1 a1 u1 b k cs hcs h1 h2 h3 (hB.mono h5.dom h5.phi)
  | .cond c x y => fun cf φ D s w e a u b k cs hcs hI he hu hB => by
    simp only [codeM]
    split
    · rename_i hc
      have hev := (eval_sound hC hI.1 he hc).1
      exact OutM.trans (Ext.refl ..) (.one (go_cond (t := true) (by rw [hev]; simp [den]))) (codeM_sound hC hrec hdraw n x cf φ D s w e a u b k cs hcs hI he hu hB)
    · rename_i hc
      have hev := (eval_sound hC hI.1 he hc).1
      exact OutM.trans (Ext.refl ..) (.one (go_cond (t := false) (by rw [hev]; simp [den]))) (codeM_sound hC hrec hdraw n y cf φ D s w e a u b k cs hcs hI he hu hB)
    · exact ⟨.fail, List.mem_singleton.2 rfl, trivial⟩
  | .block id x => fun cf φ D s w e a u b k cs hcs hI he hu hB => by
    obtain ⟨r, hr, h⟩ := codeM_sound hC hrec hdraw n x cf φ D s w e a u b (.inBlock id :: k) cs hcs hI he hu hB
    simp only [codeM]
    refine ⟨_, List.mem_map.2 ⟨r, hr, rfl⟩, ?_⟩
    cases r with
    | fail => trivial
    | fin x1 e1 u1 s1 =>
      obtain ⟨φ1, D1, w1, a1, h1, h2, h3, h4, h5, h6⟩ := h
      have h6' := Arr.of_steps (.one go_block) h6
      cases x1 with
      | normal => exact ⟨φ1, D1, w1, a1, h1, h2, h3, h4, h5, Steps.trans h6' (.one go_inBlock)⟩
      | exit j =>
        obtain ⟨kk, hk, hs⟩ := h6'
        simp only [inBlockA]
        cases hj : Nat.beq j id with
        | true =>
          rw [beq_iff] at hj
          subst hj
          refine ⟨φ1, D1, w1, a1, h1, h2, h3, trivial, h5, Steps.trans hs (.one (go_exit ?_))⟩
          rw [hk]; simp [exitTo]
        | false =>
          have hj' := beq_false hj
          refine ⟨φ1, D1, w1, a1, h1, h2, h3, trivial, h5, kk, ?_, hs⟩
          rw [hk]
          have : (id == j) = false := by simp; exact fun h => hj' h.symm
          simp [exitTo, this]
      | goto l' =>
        obtain ⟨kk, hk, hs⟩ := h6'
        exact ⟨φ1, D1, w1, a1, h1, h2, h3, h4, h5, kk, by rw [hk]; simp [gotoIn], hs⟩
      | ret => exact ⟨φ1, D1, w1, a1, h1, h2, h3, h4, h5, h6'⟩
      | panic ch => exact ⟨φ1, D1, w1, a1, h1, h2, h3, h4, h5, h6'⟩
  | .loop x => fun cf φ D s w e a u b k cs hcs hI he hu hB =>
    OutM.trans (Ext.refl ..) (.one go_loop) (iterM_sound (codeM_sound hC hrec hdraw n x) hcs n φ D s w e a u hI he hu hB)
  | .scope x => fun cf φ D s w e a u b k cs hcs hI he hu hB => by
    obtain ⟨r, hr, h⟩ := codeM_sound hC hrec hdraw n x cf φ D s w e a u b (.inScope x :: k) cs hcs hI he hu hB
    simp only [codeM]
    refine ⟨_, List.mem_map.2 ⟨r, hr, rfl⟩, ?_⟩
    cases r with
    | fail => trivial
    | fin x1 e1 u1 s1 =>
      obtain ⟨φ1, D1, w1, a1, h1, h2, h3, h4, h5, h6⟩ := h
      have h6' := Arr.of_steps (.one go_scope) h6
      cases x1 with
      | normal => exact ⟨φ1, D1, w1, a1, h1, h2, h3, h4, h5, Steps.trans h6' (.one go_inScope)⟩
      | exit j =>
        obtain ⟨kk, hk, hs⟩ := h6'
        exact ⟨φ1, D1, w1, a1, h1, h2, h3, h4, h5, kk, by rw [hk]; simp [exitTo], hs⟩
      | goto l' => trivial
      | ret => exact ⟨φ1, D1, w1, a1, h1, h2, h3, h4, h5, h6'⟩
      | panic ch => exact ⟨φ1, D1, w1, a1, h1, h2, h3, h4, h5, h6'⟩
  | .skip => fun cf φ D s w e a u b k cs hcs hI he hu hB => .one (code_sound hC hrec hdraw n .skip cf φ D s w e a u b k cs hcs hI he hu hB)
  | .label l => fun cf φ D s w e a u b k cs hcs hI he hu hB => .one (code_sound hC hrec hdraw n (.label l) cf φ D s w e a u b k cs hcs hI he hu hB)
  | .rangeFunc f ps x y => fun cf φ D s w e a u b k cs hcs hI he hu hB => .one (code_sound hC hrec hdraw n (.rangeFunc f ps x y) cf φ D s w e a u b k cs hcs hI he hu hB)
  | .exit id => fun cf φ D s w e a u b k cs hcs hI he hu hB => .one (code_sound hC hrec hdraw n (.exit id) cf φ D s w e a u b k cs hcs hI he hu hB)
  | .goto l => fun cf φ D s w e a u b k cs hcs hI he hu hB => .one (code_sound hC hrec hdraw n (.goto l) cf φ D s w e a u b k cs hcs hI he hu hB)
  | .ret => fun cf φ D s w e a u b k cs hcs hI he hu hB => .one (code_sound hC hrec hdraw n .ret cf φ D s w e a u b k cs hcs hI he hu hB)
  | .refuse _ => fun cf φ D s w e a u b k cs hcs hI he hu hB => ⟨.fail, List.mem_singleton.2 rfl, trivial⟩

/-- Behind a function's code: it is left. -/
theorem end_out (hC : CxOk C P) {rec : Rec} (hrec : RecOk C P rec) {n : Nat} {f : FuncId} {fn : Func} (hf : P.funcs[f]? = some fn) {φ : Phi} {D : Nat → Prop} {s : St} {w : World} {b : Frame} {m : Machine} {cs : List Frame}
    (hbf : b.fn = f) (hbk : b.kind = .normal) (hbr : b.roundOf = none) {res : COut}
    (hbody : Out C P φ D s w m b [] false cs res) : CallOut C P f false φ D s w m cs (endC C rec fn n res) := by
  cases res with
  | fail => trivial
  | fin x e1 u1 s1 =>
    obtain ⟨φ1, D1, w1, a1, h1, h2, h3, h4, h5, h6⟩ := hbody
    have start : ∀ mm, (∃ todo, Steps P m (lone { fat b a1 todo with mode := denM φ1 mm } (csOf false φ1 u1 cs) w1)) → okM D1 mm →
        CallOut C P f false φ D s w m cs (leaveA C rec fn u1 e1 n e1.defers mm s1) := by
      intro mm ⟨todo, hst⟩ hm
      have hl := leave_sound hC hrec (fn := fn) (u0 := u1) (e := e1) (cs := csOf false φ1 u1 cs) n e1.defers mm φ1 D1 s1 w1 { fat b a1 todo with mode := denM φ1 mm } h1 h2.tmps rfl hm
        (by rw [show ({ fat b a1 todo with mode := denM φ1 mm } : Frame).defers = a1.defers from rfl, h2.defers]) h2.ok
      generalize leaveA C rec fn u1 e1 n e1.defers mm s1 = out at hl
      cases out with
      | fail => trivial
      | returned v u' s' =>
        obtain ⟨rfl, φ', D', w', fr', q1, q2, q3, q4, q5, q6, q7, q8, q9⟩ := hl
        have hx := h5.trans q2
        refine ⟨φ', D', w', fr', q1, hx, q3, okM.mono q2.dom h3, ?_, q5.trans hbf, q6.trans hbk, q7, q8, fn, hf, q9⟩
        rw [← csOf_congr (fun i hi => (q2.phi i hi).symm) h3 cs]
        exact hst.trans q4
      | panicked ch u' s' =>
        obtain ⟨rfl, φ', D', w', fr', q1, q2, q3, q4, q5, q6, q7, q8⟩ := hl
        have hx := h5.trans q2
        refine ⟨φ', D', w', fr', q1, hx, q3, okM.mono q2.dom h3, ?_, q5.trans hbf, q6.trans hbk, q7, q8, fn, hf⟩
        rw [← csOf_congr (fun i hi => (q2.phi i hi).symm) h3 cs]
        exact hst.trans q4
    cases x with
    | normal => exact start .returning ⟨[], Steps.trans h6 (.one (go_leave_end hbr))⟩ trivial
    | ret =>
      obtain ⟨kk, h6⟩ := h6
      exact start .returning ⟨_, h6.trans (.one (go_leave_ret hbr))⟩ trivial
    | panic ch =>
      obtain ⟨todo, h6⟩ := h6
      exact start (.panicking ch) ⟨todo, h6⟩ h4
    | exit id => trivial
    | goto l => trivial

theorem callM_sound (hC : CxOk C P) {rec : Rec} (hrec : RecOk C P rec) (hdraw : DrawOk C P rec) (n : Nat) (f : FuncId) (args : List Value) (s : St) (φ : Phi) (D : Nat → Prop) (w : World)
    (hI : Inv C φ D s w) (hargs : OkL D args) (cs : List Frame) :
    ∃ r ∈ callM C rec n f args s, CallOut C P f false φ D s w (lone (Frame.enter P f (denL φ args).toArray .normal) cs w) cs r := by
  unfold callM
  split
  · exact ⟨.fail, List.mem_singleton.2 rfl, trivial⟩
  rename_i fn hfn
  have hf := hC.func f fn hfn
  split
  · exact ⟨.fail, List.mem_singleton.2 rfl, trivial⟩
  rename_i c hc
  cases hle : Nat.ble args.length fn.ntmps with
  | false => exact ⟨.fail, List.mem_singleton.2 rfl, trivial⟩
  | true =>
    simp only [cond_true]
    have hlen : args.length ≤ fn.ntmps := Nat.le_of_ble_eq_true hle
    rw [enter_fat (denL φ args).toArray .normal hf hc]
    generalize hb : ({ fn := f, tmps := #[], todo := [], defers := [], mode := .run, kind := .normal } : Frame) = b
    have hbf : b.fn = f := by rw [← hb]
    have hbk : b.kind = .normal := by rw [← hb]
    have hbr : b.roundOf = none := by rw [← hb]
    have hB : BOk φ D ⟨f, false, none⟩ b := ⟨hbf, hbk, hbr, by intro l h; cases h⟩
    have he : ERel φ D { tmps := argsT args 0 .nil, n := fn.ntmps, defers := [] } { tmps := (denL φ args).toArray ++ Array.replicate (fn.ntmps - (denL φ args).toArray.size) undef, defers := [] } :=
      ⟨args_rel hlen hargs, rfl, by intro d h; cases h⟩
    obtain ⟨r, hr, hbody⟩ := codeM_sound hC hrec hdraw n c ⟨f, false, none⟩ φ D s w _ _ .run b [] cs (by intro h; cases h) hI he trivial hB
    exact ⟨_, List.mem_map.2 ⟨r, hr, rfl⟩, end_out hC hrec hf hbf hbk hbr hbody⟩

/-- What is owed of what is known. -/
def OverOk (C : Cx) (P : Program) (over : FuncId → List Value → St → Option Value) : Prop :=
  ∀ f args s v φ D w, over f args s = some v → Inv C φ D s w → OkL D args →
    closedB v = true ∧ Calls P f (denL φ args).toArray w fun e w' => e = .returned v ∧ Below w.heap.size w w'
theorem noOver_ok : OverOk C P noOver := fun f args s v φ D w h => by cases h

theorem below_rel' {φ : Phi} {D : Nat → Prop} {s : St} {w w' : World} (hI : Inv C φ D s w) (hb : Below w.heap.size w w') : Inv C φ D s w' ∧ Ext φ D s.heap w φ D s.heap w' :=
  ⟨⟨⟨hI.1.dom, fun i b hi => (hI.1.blk i b hi).mono (fun _ h => h) (fun _ _ => rfl) (hb.block _ (hI.1.blk i b hi).lt), hI.1.sep, hI.1.glob⟩, hI.2⟩,
    ⟨fun _ h => h, fun _ _ => rfl, hb.size, hb.os, hb.tape, hb.output, fun k hk _ => hb.block k hk, fun i bi hi hw _ => ⟨i, bi, hi, hw, rfl⟩, fun i bi hi _ => ⟨i, bi, hi, rfl⟩⟩⟩

theorem recM_step (hC : CxOk C P) {over : FuncId → List Value → St → Option Value} (hover : OverOk C P over) (many : Nat → Bool) {rec : Rec} (hrec : RecOk C P rec) (hdraw : DrawOk C P rec) (n : Nat) :
    RecOk C P { call := callN C over many rec n, round := roundA C rec n } := by
  have base := rec_step hC hrec hdraw n
  refine ⟨?_, fun f args u s φ D w hI hargs hu => base.callD f args u s φ D w hI hargs hu, base.round⟩
  intro f args s φ D w hI hargs
  have h0 := base.call f args s φ D w hI hargs
  simp only [callN]
  cases hs : over f args s with
  | some v =>
    simp only
    intro cs
    obtain ⟨hv, hcall⟩ := hover f args s v φ D w hs hI hargs
    obtain ⟨e, w', fr, ⟨he, hb⟩, h1, h2, h3⟩ := hcall cs
    subst he
    obtain ⟨q1, q2⟩ := below_rel' hI hb
    exact ⟨φ, D, w', fr, q1, q2, (closed_den φ D v hv).2, by simpa [Comes] using h1, h2, by rw [(closed_den φ D v hv).1]; exact h3⟩
  | none =>
  simp only
  cases hm : many f with
  | false => exact h0
  | true =>
    simp only [cond_true]
    have hless := agreeL_less (callM C rec n f args s)
    have hall := callM_sound hC hrec hdraw n f args s φ D w hI hargs
    generalize agreeL (callM C rec n f args s) = out at hless
    cases out with
    | fail => trivial
    | returned v u s1 =>
      intro cs
      obtain ⟨r, hr, ho⟩ := hall cs
      have hl := hless r hr
      cases r with
      | fail => cases hl
      | panicked _ _ _ => cases hl
      | returned v' u' s' =>
        obtain ⟨rfl, hn, hh⟩ := hl
        obtain ⟨φ', D', w', fr, q1, q2, q3, q4, q5, q6, q7, q8, q9, q10⟩ := ho
        have hI' := q1.forget hh
        have e : ({ s' with heap := s1.heap } : St) = s1 := by cases s1; cases s'; cases hn; rfl
        rw [e] at hI'
        exact ⟨φ', D', w', fr, hI', q2.forget hh, q3, q5, q6, q8, q9, q7, by rw [q6]; exact q10⟩
    | panicked ch u s1 =>
      intro cs
      obtain ⟨r, hr, ho⟩ := hall cs
      have e : FOut.panicked ch u s1 = r := hless r hr
      subst e
      obtain ⟨φ', D', w', fr, q1, q2, q3, q4, q5, q6, q7, q8, q9, q10⟩ := ho
      exact ⟨φ', D', w', fr, q1, q2, q3, q5, q6, q8, q9, by rw [q6]; exact q10⟩

theorem recM_sound (hC : CxOk C P) {over : FuncId → List Value → St → Option Value} (hover : OverOk C P over) (many : Nat → Bool) : ∀ n, RecOk C P (recM C over many n)
  | 0 => ⟨fun _ _ _ _ _ _ _ _ => trivial, fun _ _ _ _ _ _ _ _ _ _ => trivial, fun _ _ _ _ _ _ _ _ _ _ _ _ _ => trivial⟩
  | n + 1 => recM_step hC hover many (recM_sound hC hover many n) (draw_sound hC (recM_sound hC hover many n)) n

/-- A call without arguments, of which the interpreter says that it returns true; h0: variables that are known, that nobody writes. -/
theorem closed_callG (hC : CxOk C P) {over : FuncId → List Value → St → Option Value} (hover : OverOk C P over) (many : Nat → Bool) {n f : Nat} {h0 : T Blk}
    (h : retTrue ((recM C over many n).call false f [] .run ⟨h0, C.globals⟩) = true) (w : World)
    (hr : Rel C (fun g => ⟨g, 0, 0⟩) (fun i => i < C.globals) h0 w) (hnw : ∀ i b, h0.get i = some b → writable b = false) :
    Calls P f #[] w fun e w' => e = .returned (.bool true) ∧ Below w.heap.size w w' := by
  have hI : Inv C (fun g => ⟨g, 0, 0⟩) (fun i => i < C.globals) ⟨h0, C.globals⟩ w := ⟨hr, fun i h => h⟩
  have hcall := (recM_sound hC hover many n).call f [] ⟨h0, C.globals⟩ _ _ w hI trivial
  generalize (recM C over many n).call false f [] .run ⟨h0, C.globals⟩ = out at h hcall
  cases out with
  | returned v u s' =>
    have hv : v = .bool true := by
      cases v with
      | bool b => cases b with
        | true => rfl
        | false => simp [retTrue] at h
      | _ => simp [retTrue] at h
    subst hv
    intro cs
    obtain ⟨φ', D', w', fr, h1, h2, h3, h4, h5, h6⟩ := hcall cs
    refine ⟨.returned (.bool true), w', fr, ⟨rfl, ⟨h2.os, h2.tape, h2.output, h2.size, fun k hk => h2.frame k hk fun i bi hi hw => by rw [hnw i bi hi] at hw; cases hw⟩⟩, ?_, h5, ?_⟩
    · simpa [denL, Comes] using h4
    · simpa [den] using h6
  | panicked ch u s' => simp [retTrue] at h
  | fail => simp [retTrue] at h

theorem closed_callM (hC : CxOk C P) (many : Nat → Bool) {n f : Nat} (h : retTrue ((recM C noOver many n).call false f [] .run ⟨.nil, C.globals⟩) = true) (w : World) :
    Calls P f #[] w fun e w' => e = .returned (.bool true) ∧ Below w.heap.size w w' :=
  closed_callG hC noOver_ok many h w
    ⟨fun i b h => (by rw [T.get_nil] at h; cases h), fun i b h => (by rw [T.get_nil] at h; cases h), fun i j bi bj h => (by rw [T.get_nil] at h; cases h), fun g hg => ⟨hg, rfl⟩⟩
    (fun i b h => (by rw [T.get_nil] at h; cases h))

end
end
end Go.Eng
