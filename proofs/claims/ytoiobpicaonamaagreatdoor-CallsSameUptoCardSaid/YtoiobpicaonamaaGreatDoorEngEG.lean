import Derived.Test.YtoiobpicaonamaaGreatDoorEngEF
import Derived.Below
import Derived.ChangeSame
import Derived.Lib.Index
import Derived.Handed
import Derived.SizedLaws
import Derived.LaidLaws
import Derived.LaidMore
import Derived.LaidHandle
import GoSem.Claims
namespace Go.Eng
open Go.RowKit Go.ChangeShapes
set_option linter.unusedVariables false
set_option linter.unusedSimpArgs false
def retTrue : FOut → Bool
  | .returned (.bool true) _ _ => true
  | _ => false
theorem closed_call {C : Cx} {P : Program} (hC : CxOk C P) {n f : Nat} (h : retTrue ((recOf C n).call false f [] .run ⟨.nil, C.globals⟩) = true) (w : World) :
    Calls P f #[] w fun e w' => e = .returned (.bool true) ∧ Below w.heap.size w w' := by
  have hI : Inv C (fun g => ⟨g, 0, 0, none⟩) (fun i => i < C.globals) ⟨.nil, C.globals⟩ w :=
    ⟨⟨fun i b h => (by rw [T.get_nil] at h; cases h), fun i b h => (by rw [T.get_nil] at h; cases h), fun i j bi bj h => (by rw [T.get_nil] at h; cases h), fun g hg => ⟨hg, rfl⟩⟩, fun i h => h⟩
  have hcall := (recOf_sound hC n).call f [] ⟨.nil, C.globals⟩ _ _ w hI trivial
  generalize (recOf C n).call false f [] .run ⟨.nil, C.globals⟩ = out at h hcall
  cases out with
  | returned v u s' =>
    have hv : v = .bool true := by
      cases v with
      | bool b => cases b with
        | true => rfl
        | false => simp [retTrue] at h
      | _ => simp [retTrue] at h
    subst hv
    intro cs
    obtain ⟨φ', D', w', fr, h1, h2, h3, h4, h5, h6⟩ := hcall cs
    refine ⟨.returned (.bool true), w', fr, ⟨rfl, ⟨h2.os, h2.tape, h2.output, h2.size, fun k hk => h2.frame k hk fun i bi hi => (by rw [T.get_nil] at hi; cases hi)⟩⟩, ?_, h5, ?_⟩
    · simpa [denL, Comes] using h4
    · simpa [den] using h6
  | panicked ch u s' => simp [retTrue] at h
  | fail => simp [retTrue] at h
theorem post_closed {H : Type} {P : Program} {enc : TypeId × Value → H} {f : Func} {s : ChangeSpec} {apart fresh handsOn again : Bool} {W W' : World} {args : Array Value} {v : Value} {ds gs : List (DataW H)}
    (hW : DataW.Whole enc P f.params.toList s.vars apart W args.toList ds gs [])
    (hres : ∀ (b : Nat) (sp : Nat → Bool) (hd : Bool), DataW.TrodAll enc P W' b sp hd f.resultTypes.toList (v.resultList f.resultTypes.size) (s.fn H (ds ++ gs)).results [])
    (hargs : ∀ sp : Nat → Bool, DataW.TrodAll enc P W' 0 sp true f.params.toList args.toList (s.fn H (ds ++ gs)).args [])
    (hvars : ∀ sp : Nat → Bool, DataW.TrodVars enc P W' sp s.vars (s.fn H (ds ++ gs)).vars [])
    (hk : Below W.heap.size W W')
    (hok : ∀ (j : Nat) (t : TypeId) (r : Value), f.resultTypes[j]? = some t → (v.resultList f.resultTypes.size)[j]? = some r → Value.okWide P W' .any 0 t r) :
    s.post enc P f apart fresh handsOn again W args v W' := by
  refine ⟨ds, gs, [], [], [], [], hW, hres _ _ _, hargs _, hvars _, hk.frame _, fun _ => ?_⟩
  obtain ⟨_, _, _, _, _, hz, hn⟩ := hW
  exact ⟨hok, _, _, ([] ++ []) ++ [], ⟨[] ++ [], [], trodAll_append (hargs _) (hres _ _ _), hvars _, rfl, (fun b off hp => by simp at hp), (fun _ => by simp)⟩, (fun p hp _ => by simp at hp)⟩
end Go.Eng
namespace Go.Eng
set_option linter.unusedSimpArgs false
set_option linter.unusedVariables false
def T.bound {α : Type} : T α → Nat
  | .nil => 0
  | .node l _ r => 1 + 2 * max l.bound r.bound
theorem T.lt_bound {α : Type} : ∀ (t : T α) (n : Nat) (a : α), t.get n = some a → n < t.bound
  | .nil, n, a, h => by rw [T.get_nil] at h; cases h
  | .node l v r, n, a, h => by
    cases n with
    | zero => simp only [T.bound]; omega
    | succ m =>
      simp only [T.get] at h
      cases hb : Nat.beq (m % 2) 0 with
      | true =>
        rw [hb] at h
        have := T.lt_bound l (m / 2) a h
        have := Nat.eq_of_beq_eq_true hb
        simp only [T.bound]; omega
      | false =>
        rw [hb] at h
        have := T.lt_bound r (m / 2) a h
        have := Nat.ne_of_beq_eq_false hb
        simp only [T.bound]; omega
theorem table_of {α : Type} {t : T α} {A : Nat → Option α} {b : Nat} (hb : Nat.ble t.bound b = true) (h : (List.range b).map t.get = (List.range b).map A) (n : Nat) (a : α) (hn : t.get n = some a) : A n = some a := by
  have hl : n < b := Nat.lt_of_lt_of_le (T.lt_bound t n a hn) (Nat.le_of_ble_eq_true hb)
  have := congrArg (·[n]?) h
  simp only [List.getElem?_map, List.getElem?_range hl, Option.map_some, Option.some.injEq] at this
  rw [← this, hn]
def T.allB {α : Type} (p : α → Bool) : T α → Bool
  | .nil => true
  | .node l v r => (match v with
    | some a => p a
    | none => true) && (T.allB p l && T.allB p r)
theorem T.allB_get {α : Type} {p : α → Bool} : ∀ (t : T α) (n : Nat) (a : α), T.allB p t = true → t.get n = some a → p a = true
  | .nil, n, a, _, h => by rw [T.get_nil] at h; cases h
  | .node l v r, n, a, hp, h => by
    simp only [T.allB, Bool.and_eq_true] at hp
    cases n with
    | zero =>
      simp only [T.get] at h
      subst h
      exact hp.1
    | succ m =>
      simp only [T.get] at h
      cases hb : Nat.beq (m % 2) 0 with
      | true => rw [hb] at h; exact T.allB_get l (m / 2) a hp.2.1 h
      | false => rw [hb] at h; exact T.allB_get r (m / 2) a hp.2.2 h
def zeroB (i : TypeInfo) : Bool :=
  match i.zero with
  | some z => Nat.beq z.cells.size i.size
  | none => true
def nameB (fn : Func) : Bool := !fn.body.isSome || !(fn.name == "runtime.NumGoroutine")
theorem cxOk_of {C : Cx} {P : Program} {bt bf : Nat} (ht : Nat.ble C.types.bound bt = true) (ht' : (List.range bt).map C.types.get = (List.range bt).map P.info?)
    (hf : Nat.ble C.funcs.bound bf = true) (hf' : (List.range bf).map C.funcs.get = (List.range bf).map (P.funcs[·]?)) (hrt : C.rt = P.rt) (hg : C.globals = P.globals.size) (hm : P.follows .mixedOrders = true)
    (hz : T.allB zeroB C.types = true) (hn : T.allB nameB C.funcs = true) {L : List Nat} (hfl : C.flat = L.foldl (fun t n => t.set n ()) .nil)
    (hfl' : L.all (fun t => !P.stoodInHeld t && !P.eqGuardType P.depth t) = true) (hsure : C.sure = .nil := by rfl) : CxOk C P where
  sure f v h := by rw [hsure, T.get_nil] at h; cases h
  info t i h := table_of ht ht' t i h
  func f fn h := table_of (A := (P.funcs[·]?)) hf hf' f fn h
  rt := hrt
  globals := hg
  mixed := hm
  zsize t i z h hz' := by
    have := T.allB_get _ t i hz h
    unfold zeroB at this
    rw [hz'] at this
    exact Nat.eq_of_beq_eq_true this
  flat t h := by
    rw [hfl] at h
    have key : ∀ (L : List Nat) (t0 : T Unit), ((L.foldl (fun t n => t.set n ()) t0).get t).isSome = true → t ∈ L ∨ (t0.get t).isSome = true := by
      intro L
      induction L with
      | nil => intro t0 h; exact .inr h
      | cons n r ih =>
        intro t0 h
        rcases ih _ h with h | h
        · exact .inl (List.mem_cons_of_mem _ h)
        · rw [T.get_set] at h
          split at h
          · rename_i e; rw [e]; exact .inl (List.mem_cons_self ..)
          · exact .inr h
    rcases key L .nil h with h | h
    · have := List.all_eq_true.1 hfl' t h
      simp only [Bool.and_eq_true, Bool.not_eq_true'] at this
      exact this
    · rw [T.get_nil] at h; cases h
  name f fn h hb := by
    have := T.allB_get _ f fn hn h
    unfold nameB at this
    rw [hb] at this
    simpa using this
theorem CxOk.with {C : Cx} {P : Program} (hC : CxOk C P) {t : T Value} {nd : Option Nat}
    (h : ∀ f v, t.get f = some v → closedB v = true ∧ ∀ w, (∀ n, nd = some n → ∃ m, w.cell? ⟨n, 0, none⟩ = some (.int .i64 m)) → Calls P f #[] w fun e w' => e = .returned v ∧ RowKit.Below w.heap.size w w') :
    CxOk { C with sure := t, need := nd } P :=
  ⟨hC.info, hC.func, hC.rt, hC.globals, hC.mixed, hC.zsize, hC.name, hC.flat, h⟩
theorem sure_one {P : Program} {f : Nat} {v : Value} {nd : Option Nat} (hv : closedB v = true)
    (h : ∀ w, (∀ n, nd = some n → ∃ m, w.cell? ⟨n, 0, none⟩ = some (.int .i64 m)) → Calls P f #[] w fun e w' => e = .returned v ∧ RowKit.Below w.heap.size w w') :
    ∀ g a, ((T.nil : T Value).set f v).get g = some a → closedB a = true ∧ ∀ w, (∀ n, nd = some n → ∃ m, w.cell? ⟨n, 0, none⟩ = some (.int .i64 m)) → Calls P g #[] w fun e w' => e = .returned a ∧ RowKit.Below w.heap.size w w' := by
  intro g a hg
  rw [T.get_set] at hg
  split at hg
  · rename_i e
    cases hg
    subst e
    exact ⟨hv, h⟩
  · rw [T.get_nil] at hg; cases hg
end Go.Eng
namespace Go.Eng
open Go.RowKit Go.ChangeShapes
set_option linter.unusedVariables false
set_option linter.unusedSimpArgs false
def manyNext (C : Cx) (e : E) (o : Oper) (s : St) : Option (List (Value × St)) :=
  match o.op with
  | .next it false => match e.eval C it with
    | some (.pointer (some ⟨r, 0, none⟩)) => match s.heap.get r with
      | some (.mIter (some m) since seen last) => match s.heap.get m with
        | some (.map es clock) =>
          bif !(seen.isEmpty || es.isEmpty) && es.all (fun e => Nat.ble last e.born) then none
          else match es.filter (fun e => !memN e.born seen) with
            | [] => none
            | a :: l => bif (a :: l).all (fun e => Nat.blt e.born since) then
                some ((a :: l).map fun e => (.tuple #[.bool true, e.key, e.val], { s with heap := s.heap.set r (.mIter (some m) since (seen ++ [e.born]) clock) }))
              else none
        | _ => none
      | _ => none
    | _ => none
  | _ => none
def nextM (k : E → FrameMode → St → List COut) : COut → List COut
  | .fin .normal e u s => k e u s
  | x => [x]
def thenM : List COut → (E → FrameMode → St → List COut) → List COut
  | [], _ => []
  | x :: r, k => nextM k x ++ thenM r k
def opM (C : Cx) (rec : Rec) (cf : Cf) (ops : List Oper) (o : Oper) (e : E) (u : FrameMode) (s : St) : List COut :=
  match wantedA ops e o with
  | some true => match manyNext C e o s with
    | some l => l.map fun p => match e.put o.dst p.1 with
      | some e => .fin .normal e u p.2
      | none => .fail
    | none => [opStep C rec cf ops o e u s]
  | _ => [opStep C rec cf ops o e u s]
def opsM (C : Cx) (rec : Rec) (cf : Cf) (ops : List Oper) : List Oper → E → FrameMode → St → List COut
  | [], e, u, s => [.fin .normal e u s]
  | o :: r, e, u, s => thenM (opM C rec cf ops o e u s) (opsM C rec cf ops r)
def iterM (body : E → FrameMode → St → List COut) : Nat → E → FrameMode → St → List COut
  | 0, _, _, _ => [.fail]
  | n + 1, e, u, s => thenM (body e u s) (iterM body n)
def noGoto : COut → COut
  | .fin (.goto _) _ _ _ => .fail
  | x => x
def codeM (C : Cx) (rec : Rec) (n : Nat) (cf : Cf) : Code → E → FrameMode → St → List COut
  | .region id ops draw, e, u, s => bif draw then [codeA C rec n cf (.region id ops draw) e u s] else opsM C rec cf ops.toList ops.toList e u s
  | .seq a b, e, u, s => thenM (codeM C rec n cf a e u s) (codeM C rec n cf b)
  | .cond c a b, e, u, s => match e.eval C c with
    | some (.bool true) => codeM C rec n cf a e u s
    | some (.bool false) => codeM C rec n cf b e u s
    | _ => [.fail]
  | .block id b, e, u, s => (codeM C rec n cf b e u s).map (inBlockA id)
  | .loop b, e, u, s => iterM (codeM C rec n cf b) n e u s
  | .scope b, e, u, s => (codeM C rec n cf b e u s).map noGoto
  | .skip, e, u, s => [codeA C rec n cf .skip e u s]
  | .label l, e, u, s => [codeA C rec n cf (.label l) e u s]
  | .rangeFunc f ps a b, e, u, s => [codeA C rec n cf (.rangeFunc f ps a b) e u s]
  | .exit id, e, u, s => [codeA C rec n cf (.exit id) e u s]
  | .goto l, e, u, s => [codeA C rec n cf (.goto l) e u s]
  | .ret, e, u, s => [codeA C rec n cf .ret e u s]
  | .refuse w, e, u, s => [.fail]
def endC (C : Cx) (rec : Rec) (fn : Func) (n : Nat) : COut → FOut
  | .fin .normal e u s => leaveA C rec fn u e n e.defers .returning s
  | .fin .ret e u s => leaveA C rec fn u e n e.defers .returning s
  | .fin (.panic chain) e u s => leaveA C rec fn u e n e.defers (.panicking chain) s
  | _ => .fail
def callM (C : Cx) (rec : Rec) (n : Nat) (f : FuncId) (args : List Value) (s : St) : List FOut :=
  match C.funcs.get f with
  | none => [.fail]
  | some fn => match fn.body with
    | none => [.fail]
    | some c =>
      bif Nat.ble args.length fn.ntmps then
        (codeM C rec n ⟨f, false, none⟩ c { tmps := argsT args 0 .nil, n := fn.ntmps, defers := [] } .run s).map (endC C rec fn n)
      else [.fail]
def sameE : List MapEntry → List MapEntry → Bool
  | [], [] => true
  | a :: x, b :: y => sameV a.key b.key && sameV a.val b.val && Nat.beq a.born b.born && sameE x y
  | _, _ => false
def sameBlk : Blk → Blk → Bool
  | .map x c, .map y c' => sameE x y && Nat.beq c c'
  | .chan n x a b, .chan n' y a' b' => sameB (.chan n x a b) (.chan n' y a' b')
  | .deferred none, .deferred none => true
  | .deferred (some []), .deferred (some []) => true
  | _, _ => false
def agreeP : Option Nat → Option Nat → Option (Option Nat)
  | none, none => some none
  | some a, none => some (some a)
  | none, some b => some (some b)
  | some a, some b => bif Nat.beq a b then some (some a) else none
def agreeB : Blk → Blk → Option Blk
  | .cells x t s p, .cells y t' s' p' => bif sameL x y && Nat.beq t t' && Nat.beq s s' then
      match agreeP p p' with
      | some q => some (.cells x t s q)
      | none => none
    else none
  | a, b => bif sameBlk a b then some a else none
def agreeO : Option Blk → Option Blk → Option Blk
  | some a, some b => agreeB a b
  | _, _ => none
def agreeT : T Blk → T Blk → T Blk
  | .node l v r, .node l' v' r' => .node (agreeT l l') (agreeO v v') (agreeT r r')
  | _, _ => .nil
def agree2 : FOut → FOut → FOut
  | .returned v u s, .returned v' _ s' => bif sameV v v' && Nat.beq s.next s'.next then .returned v u { s with heap := agreeT s.heap s'.heap } else .fail
  | _, _ => .fail
def agree : FOut → List FOut → FOut
  | a, [] => a
  | a, b :: l => agree (agree2 a b) l
def agreeL : List FOut → FOut
  | [] => .fail
  | a :: l => agree a l
def callN (C : Cx) (over : FuncId → List Value → St → Option Value) (many : Nat → Bool) (rec : Rec) (n : Nat) (dfr : Bool) (f : FuncId) (args : List Value) (u : FrameMode) (s : St) : FOut :=
  match dfr with
  | true => callA C rec n true f args u s
  | false => match over f args s with
    | some v => .returned v u s
    | none => bif many f then agreeL (callM C rec n f args s) else callA C rec n false f args u s
def recM (C : Cx) (over : FuncId → List Value → St → Option Value) (many : Nat → Bool) : Nat → Rec
  | 0 => { call := fun _ _ _ _ _ => .fail, round := fun _ _ _ => .fail }
  | n + 1 => { call := callN C over many (recM C over many n) n, round := roundA C (recM C over many n) n }
def noOver : FuncId → List Value → St → Option Value := fun _ _ _ => none
theorem sameE_eq : ∀ {x y : List MapEntry}, sameE x y = true → x = y
  | [], [], _ => rfl
  | [], _ :: _, h => by simp [sameE] at h
  | _ :: _, [], h => by simp [sameE] at h
  | ⟨k, v, b⟩ :: x, ⟨k', v', b'⟩ :: y, h => by
    simp only [sameE, Bool.and_eq_true] at h
    rw [sameV_eq k k' h.1.1.1, sameV_eq v v' h.1.1.2, Nat.eq_of_beq_eq_true h.1.2, sameE_eq h.2]
theorem sameBlk_eq {x y : Blk} (h : sameBlk x y = true) : x = y := by
  unfold sameBlk at h
  split at h
  · simp only [Bool.and_eq_true] at h
    rw [sameE_eq h.1, Nat.eq_of_beq_eq_true h.2]
  · exact sameB_eq h
  · rfl
  · rfl
  · cases h
def Wkr (x y : Blk) : Prop := y = x ∨ ∃ vs t st p, x = .cells vs t st p ∧ y = .cells vs t st none
theorem Wkr.refl (x : Blk) : Wkr x x := .inl rfl
theorem Wkr.trans {x y z : Blk} (h : Wkr x y) (g : Wkr y z) : Wkr x z := by
  rcases h with rfl | ⟨vs, t, st, p, rfl, rfl⟩
  · exact g
  · rcases g with rfl | ⟨vs', t', st', p', h1, rfl⟩
    · exact .inr ⟨_, _, _, _, rfl, rfl⟩
    · cases h1; exact .inr ⟨_, _, _, _, rfl, rfl⟩
theorem Wkr.write {x y : Blk} (h : Wkr x y) : writable y = writable x := by
  rcases h with rfl | ⟨vs, t, st, p, rfl, rfl⟩ <;> rfl
theorem Wkr.par {x y : Blk} (h : Wkr x y) {j : Nat} (hp : parOf y = some j) : parOf x = some j := by
  rcases h with rfl | ⟨vs, t, st, p, rfl, rfl⟩
  · exact hp
  · cases hp
theorem agreeP_some {p p' q : Option Nat} (h : agreeP p p' = some q) : (p = q ∨ p = none) ∧ (p' = q ∨ p' = none) := by
  unfold agreeP at h
  split at h
  · cases h; exact ⟨.inl rfl, .inl rfl⟩
  · cases h; exact ⟨.inl rfl, .inr rfl⟩
  · cases h; exact ⟨.inr rfl, .inl rfl⟩
  · rename_i a b
    cases hb : Nat.beq a b with
    | false => simp [hb] at h
    | true =>
      simp only [hb, cond_true, Option.some.injEq] at h
      subst h
      exact ⟨.inl rfl, .inl (by rw [Nat.eq_of_beq_eq_true hb])⟩
theorem agreeO_some {a b : Option Blk} {x : Blk} (h : agreeO a b = some x) : (∃ y, a = some y ∧ Wkr x y) ∧ ∃ y, b = some y ∧ Wkr x y := by
  unfold agreeO at h
  split at h
  · rename_i p q
    unfold agreeB at h
    split at h
    · rename_i x1 t s p1 y1 t' s' p1'
      cases hs : (sameL x1 y1 && Nat.beq t t' && Nat.beq s s') with
      | false => simp [hs] at h
      | true =>
        simp only [hs, cond_true] at h
        split at h
        · rename_i q1 hq
          simp only [Option.some.injEq] at h
          subst h
          simp only [Bool.and_eq_true] at hs
          have e1 := sameL_eq _ _ hs.1.1
          have e2 := Nat.eq_of_beq_eq_true hs.1.2
          have e3 := Nat.eq_of_beq_eq_true hs.2
          subst e1 e2 e3
          obtain ⟨h1, h2⟩ := agreeP_some hq
          refine ⟨⟨_, rfl, ?_⟩, ⟨_, rfl, ?_⟩⟩
          · rcases h1 with rfl | rfl
            · exact .inl rfl
            · exact .inr ⟨_, _, _, _, rfl, rfl⟩
          · rcases h2 with rfl | rfl
            · exact .inl rfl
            · exact .inr ⟨_, _, _, _, rfl, rfl⟩
        · cases h
    · cases hs : sameBlk p q with
      | false => simp [hs] at h
      | true =>
        simp only [hs, cond_true, Option.some.injEq] at h
        subst h
        exact ⟨⟨_, rfl, .inl rfl⟩, ⟨_, rfl, .inl (sameBlk_eq hs).symm⟩⟩
  · cases h
theorem agreeT_get : ∀ (a b : T Blk) (i : Nat) (x : Blk), (agreeT a b).get i = some x → (∃ y, a.get i = some y ∧ Wkr x y) ∧ ∃ y, b.get i = some y ∧ Wkr x y
  | .nil, _, i, x, h => by simp only [agreeT, T.get_nil] at h; cases h
  | .node _ _ _, .nil, i, x, h => by simp only [agreeT, T.get_nil] at h; cases h
  | .node l v r, .node l' v' r', i, x, h => by
    simp only [agreeT, T.get_node] at h
    simp only [T.get_node]
    cases i with
    | zero => exact agreeO_some h
    | succ m =>
      simp only at h ⊢
      split at h
      · rename_i hm; rw [if_pos hm, if_pos hm]; exact agreeT_get l l' _ _ h
      · rename_i hm; rw [if_neg hm, if_neg hm]; exact agreeT_get r r' _ _ h
def HLe (h h' : T Blk) : Prop := ∀ i x, h.get i = some x → ∃ y, h'.get i = some y ∧ Wkr x y
theorem HLe.refl (h : T Blk) : HLe h h := fun i x hx => ⟨x, hx, .refl x⟩
theorem HLe.trans {a b c : T Blk} (h : HLe a b) (g : HLe b c) : HLe a c := fun i x hx => by
  obtain ⟨y, hy, w⟩ := h i x hx
  obtain ⟨z, hz, w'⟩ := g i y hy
  exact ⟨z, hz, w.trans w'⟩
section
variable {C : Cx} {P : Program}
theorem Wkr.is {φ : Phi} {D : Nat → Prop} {w : World} {p : Pl} {x y : Blk} (h : Wkr x y) (hy : BlkIs C φ D w p y) : BlkIs C φ D w p x := by
  rcases h with rfl | ⟨vs, t, st, q, rfl, rfl⟩
  · exact hy
  · exact hy
theorem Inv.forget {φ : Phi} {D : Nat → Prop} {s : St} {w : World} {h : T Blk} (hI : Inv C φ D s w) (hh : HLe h s.heap) : Inv C φ D { s with heap := h } w := by
  refine ⟨⟨fun i b hb => ?_, fun i b hb => ?_, fun i j bi bj hi hj hw he => ?_, hI.1.glob⟩, hI.2⟩
  · obtain ⟨y, hy, _⟩ := hh i b hb; exact hI.1.dom i y hy
  · obtain ⟨y, hy, hk⟩ := hh i b hb; exact hk.is (hI.1.blk i y hy)
  · obtain ⟨yi, hyi, ki⟩ := hh i bi hi
    obtain ⟨yj, hyj, kj⟩ := hh j bj hj
    rcases hI.1.sep i j yi yj hyi hyj (by rw [ki.write]; exact hw) he with h | h
    · exact .inl h
    · exact .inr (ki.par h)
theorem Ext.forget {φ φ' : Phi} {D D' : Nat → Prop} {h0 h1 h : T Blk} {w w' : World} (hx : Ext φ D h0 w φ' D' h1 w') (hh : HLe h h1) : Ext φ D h0 w φ' D' h w' :=
  ⟨hx.dom, hx.phi, hx.size, hx.os, hx.tape, hx.output, hx.frame, fun i bi hi hw => by
      obtain ⟨y, hy, k⟩ := hh i bi hi
      exact hx.range i y hy (by rw [k.write]; exact hw), fun i bi hi => by
      obtain ⟨y, hy, k⟩ := hh i bi hi
      exact hx.all i y hy⟩
def Less : FOut → FOut → Prop
  | .fail, _ => True
  | .returned v _ s, .returned v' _ s' => v = v' ∧ s.next = s'.next ∧ HLe s.heap s'.heap
  | a, b => a = b
theorem Less.refl : ∀ (a : FOut), Less a a
  | .fail => trivial
  | .returned _ _ _ => ⟨rfl, rfl, .refl _⟩
  | .panicked _ _ _ => rfl
theorem Less.trans {a b c : FOut} (h : Less a b) (g : Less b c) : Less a c := by
  cases a with
  | fail => trivial
  | returned v u s =>
    cases b with
    | returned v' u' s' =>
      cases c with
      | returned v2 u2 s2 => exact ⟨h.1.trans g.1, h.2.1.trans g.2.1, h.2.2.trans g.2.2⟩
      | fail => cases g
      | panicked _ _ _ => cases g
    | fail => cases h
    | panicked _ _ _ => cases h
  | panicked ch u s =>
    have e : FOut.panicked ch u s = b := h
    subst e; exact g
theorem agree2_less (a b : FOut) : Less (agree2 a b) a ∧ Less (agree2 a b) b := by
  cases a with
  | fail => exact ⟨trivial, trivial⟩
  | panicked _ _ _ => exact ⟨trivial, trivial⟩
  | returned v u s =>
    cases b with
    | fail => exact ⟨trivial, trivial⟩
    | panicked _ _ _ => exact ⟨trivial, trivial⟩
    | returned v' u' s' =>
      simp only [agree2]
      cases hs : (sameV v v' && Nat.beq s.next s'.next) with
      | false => exact ⟨trivial, trivial⟩
      | true =>
        rw [Bool.and_eq_true] at hs
        exact ⟨⟨rfl, rfl, fun i x hi => (agreeT_get _ _ i x hi).1⟩, ⟨sameV_eq _ _ hs.1, Nat.eq_of_beq_eq_true hs.2, fun i x hi => (agreeT_get _ _ i x hi).2⟩⟩
theorem agree_less : ∀ (l : List FOut) (a : FOut), Less (agree a l) a ∧ ∀ b ∈ l, Less (agree a l) b
  | [], a => ⟨Less.refl a, by intro b h; cases h⟩
  | c :: l, a => by
    obtain ⟨h1, h2⟩ := agree_less l (agree2 a c)
    obtain ⟨g1, g2⟩ := agree2_less a c
    refine ⟨h1.trans g1, ?_⟩
    intro b hb
    rcases List.mem_cons.1 hb with rfl | hb
    · exact h1.trans g2
    · exact h2 b hb
theorem agreeL_less (l : List FOut) : ∀ b ∈ l, Less (agreeL l) b := by
  cases l with
  | nil => intro b h; cases h
  | cons a l =>
    intro b hb
    rcases List.mem_cons.1 hb with rfl | hb
    · exact (agree_less l b).1
    · exact (agree_less l a).2 b hb
def OutM (C : Cx) (P : Program) (φ : Phi) (D : Nat → Prop) (s : St) (w : World) (m : Machine) (b : Frame) (k : List Item) (dfr : Bool) (cs : List Frame) (L : List COut) : Prop :=
  ∃ r ∈ L, Out C P φ D s w m b k dfr cs r
theorem thenM_norm {e : E} {u : FrameMode} {s : St} {k : E → FrameMode → St → List COut} {r' : COut} : ∀ {L : List COut}, COut.fin .normal e u s ∈ L → r' ∈ k e u s → r' ∈ thenM L k
  | [], h, _ => by cases h
  | x :: r, h, h' => by
    simp only [thenM]
    rcases List.mem_cons.1 h with rfl | h
    · exact List.mem_append_left _ h'
    · exact List.mem_append_right _ (thenM_norm h h')
theorem nextM_other {r' : COut} {k : E → FrameMode → St → List COut} (hn : ∀ e u s, r' ≠ .fin .normal e u s) : nextM k r' = [r'] := by
  cases r' with
  | fail => rfl
  | fin x e u s => cases x with
    | normal => exact absurd rfl (hn e u s)
    | _ => rfl
theorem thenM_other {r' : COut} {k : E → FrameMode → St → List COut} (hn : ∀ e u s, r' ≠ .fin .normal e u s) : ∀ {L : List COut}, r' ∈ L → r' ∈ thenM L k
  | [], h => by cases h
  | x :: r, h => by
    simp only [thenM]
    rcases List.mem_cons.1 h with rfl | h
    · refine List.mem_append_left _ ?_
      rw [nextM_other hn]; exact List.mem_singleton.2 rfl
    · exact List.mem_append_right _ (thenM_other hn h)
theorem OutM.bind {φ : Phi} {D : Nat → Prop} {s : St} {w : World} {m : Machine} {b : Frame} {i : Item} {k : List Item} {dfr : Bool} {cs : List Frame} {L : List COut} {g : E → FrameMode → St → List COut}
    (hi : i.plain = true) (h : OutM C P φ D s w m b (i :: k) dfr cs L)
    (hg : ∀ e u s1 φ1 D1 w1 a1, Inv C φ1 D1 s1 w1 → ERel φ1 D1 e a1 → okM D1 u → Ext φ D s.heap w φ1 D1 s1.heap w1 →
      OutM C P φ1 D1 s1 w1 (lone (fat b a1 (i :: k)) (csOf dfr φ1 u cs) w1) b k dfr cs (g e u s1)) :
    OutM C P φ D s w m b k dfr cs (thenM L g) := by
  obtain ⟨r, hr, ho⟩ := h
  cases r with
  | fail => exact ⟨.fail, thenM_other (by intro e u s h; cases h) hr, trivial⟩
  | fin x e1 u1 s1 =>
    obtain ⟨φ1, D1, w1, a1, h1, h2, h3, h4, h5, h6⟩ := ho
    cases x with
    | normal =>
      obtain ⟨r', hr', ho'⟩ := hg e1 u1 s1 φ1 D1 w1 a1 h1 h2 h3 h5
      exact ⟨r', thenM_norm hr hr', Out.trans h5 h6 ho'⟩
    | exit id => exact ⟨_, thenM_other (by intro e u s h; cases h) hr, φ1, D1, w1, a1, h1, h2, h3, h4, h5, .pass hi (by simp [denX]) h6⟩
    | goto l' => exact ⟨_, thenM_other (by intro e u s h; cases h) hr, φ1, D1, w1, a1, h1, h2, h3, h4, h5, .pass hi (by simp [denX]) h6⟩
    | ret => exact ⟨_, thenM_other (by intro e u s h; cases h) hr, φ1, D1, w1, a1, h1, h2, h3, h4, h5, .pass hi (by simp [denX]) h6⟩
    | panic ch => exact ⟨_, thenM_other (by intro e u s h; cases h) hr, φ1, D1, w1, a1, h1, h2, h3, h4, h5, .pass hi (by simp [denX]) h6⟩
theorem OutM.trans {φ φ1 : Phi} {D D1 : Nat → Prop} {s s1 : St} {w w1 : World} {m m1 : Machine} {b : Frame} {k : List Item} {dfr : Bool} {cs : List Frame} {L : List COut}
    (hx : Ext φ D s.heap w φ1 D1 s1.heap w1) (hs : Steps P m m1) (h : OutM C P φ1 D1 s1 w1 m1 b k dfr cs L) : OutM C P φ D s w m b k dfr cs L := by
  obtain ⟨r, hr, ho⟩ := h
  exact ⟨r, hr, Out.trans hx hs ho⟩
theorem OutM.one {φ : Phi} {D : Nat → Prop} {s : St} {w : World} {m : Machine} {b : Frame} {k : List Item} {dfr : Bool} {cs : List Frame} {r : COut}
    (h : Out C P φ D s w m b k dfr cs r) : OutM C P φ D s w m b k dfr cs [r] := ⟨r, List.mem_singleton.2 rfl, h⟩
theorem drawn_rel {φ : Phi} {D : Nat → Prop} {h : T Blk} {w : World} (hr : Rel C φ D h w) (n : Nat) : Rel C φ D h { w with drawn := n } ∧ Ext φ D h w φ D h { w with drawn := n } :=
  ⟨⟨hr.dom, fun i b hi => (hr.blk i b hi).mono (fun _ h => h) (fun _ _ => rfl) rfl, hr.sep, hr.glob⟩,
    ⟨fun _ h => h, fun _ _ => rfl, Nat.le_refl _, rfl, rfl, rfl, fun _ _ _ => rfl, fun i bi hi hw _ => ⟨i, bi, hi, hw, rfl⟩, fun i bi hi _ => ⟨i, bi, hi, rfl⟩⟩⟩
theorem many_next {φ : Phi} {D : Nat → Prop} {s : St} {w : World} {e : E} {a : Act} {o : Oper} {l : List (Value × St)} (hC : CxOk C P) (hI : Inv C φ D s w) (he : ERel φ D e a) (h : manyNext C e o s = some l) :
    (∀ c, o.op ≠ .defer c) ∧ ∃ p ∈ l, ∃ w', (execOp a.eval o).run P w = .ok (.value (den φ p.1)) w' ∧ Ok D p.1 ∧ Inv C φ D p.2 w' ∧ Ext φ D s.heap w φ D p.2.heap w' := by
  unfold manyNext at h
  split at h
  case h_2 => cases h
  rename_i it hop
  refine ⟨(by intro c hc; rw [hop] at hc; cases hc), ?_⟩
  split at h
  case h_2 => cases h
  rename_i r hev
  have hr := hI.1
  have hit := (eval_sound hC hr he hev).1
  split at h
  case h_2 => cases h
  rename_i m since seen last hb
  split at h
  case h_2 => cases h
  rename_i es clock hm
  obtain ⟨hmD, h0, h1⟩ := hr.blk r _ hb
  obtain ⟨hes, hm1⟩ := hr.blk m _ hm
  replace h := bool_split h; rcases h with ⟨_, h⟩ | ⟨hnot, h⟩
  · cases h
  split at h
  · cases h
  rename_i en rest hfil
  replace h := bool_split h; rcases h with ⟨hall, h⟩ | ⟨_, h⟩
  case inr => cases h
  simp only [Option.some.injEq] at h
  subst h
  simp only [Option.map_some] at h1
  have hcheck : (!seen.toArray.isEmpty && !(es.map (denE φ)).toArray.isEmpty && (es.map (denE φ)).toArray.all (fun e => decide (e.born ≥ last))) = false := by
    rw [← hnot]
    have e1 : (es.map (denE φ)).toArray.all (fun e => decide (e.born ≥ last)) = es.all (fun e => Nat.ble last e.born) := by
      rw [List.all_toArray, List.all_map]
      congr 1
      funext e
      simp only [Function.comp, denE]
      rw [Bool.eq_iff_iff]; simp [Nat.ble_eq]
    rw [e1]
    cases seen <;> cases es <;> simp
  have hleft : (es.map (denE φ)).toArray.filter (fun e => !seen.toArray.contains e.born) = ((es.filter fun e => !memN e.born seen).map (denE φ)).toArray := by
    rw [List.filter_toArray, List.filter_map]
    congr 3
    funext e
    simp only [Function.comp, denE, List.contains_toArray, memN_eq]
  have hlt : ∀ x ∈ en :: rest, x.born < since := fun x hx => by
    have := List.all_eq_true.1 hall x hx
    simpa [blt_iff] using this
  have hold : ((en :: rest).map (denE φ)).toArray.filter (fun e => decide (e.born < since)) = ((en :: rest).map (denE φ)).toArray := by
    rw [List.filter_toArray, List.filter_eq_self.2]
    intro x hx
    obtain ⟨y, hy, rfl⟩ := List.mem_map.1 hx
    exact decide_eq_true (hlt y hy)
  have hnew : ((en :: rest).map (denE φ)).toArray.filter (fun e => decide (e.born ≥ since)) = #[] := by
    rw [List.filter_toArray, List.filter_eq_nil_iff.2]
    intro x hx
    obtain ⟨y, hy, rfl⟩ := List.mem_map.1 hx
    have := hlt y hy
    simp [denE]; omega
  obtain ⟨q, w1, hq, hch, hd⟩ : ∃ q w1, q < (en :: rest).length ∧ (choose (.mapNext (en :: rest).length)).run P w = .ok q w1 ∧ ∃ n, w1 = { w with drawn := n } := by
    rw [run_choose]
    by_cases hf : (Question.mapNext (en :: rest).length).forced = true
    · rw [if_pos hf]
      exact ⟨0, w, by simp, rfl, w.drawn, rfl⟩
    · rw [if_neg hf]
      refine ⟨_, _, ?_, rfl, _, rfl⟩
      simp only [Question.cut]
      exact Nat.mod_lt _ (by simp)
  obtain ⟨n, rfl⟩ := hd
  have hget : (en :: rest)[q]? = some (en :: rest)[q] := List.getElem?_eq_getElem hq
  generalize (en :: rest)[q] = x at hget
  have hx : x ∈ en :: rest := List.mem_of_getElem? hget
  have hmem : x ∈ es := by
    have : x ∈ es.filter fun e => !memN e.born seen := by rw [hfil]; exact hx
    exact (List.mem_filter.1 this).1
  obtain ⟨hr', hx'⟩ := drawn_rel hr n
  have hb1 : ({ w with drawn := n } : World).heap[(φ r).block]? = some (.mapIter (some (φ m).block) since seen.toArray last) := h1
  have hset := Rel.setObj (o := .mapIter (some (φ m).block) since (seen ++ [x.born]).toArray clock) hr' hb rfl rfl rfl (b' := .mIter (some m) since (seen ++ [x.born]) clock) ⟨fun i hi => hmD i hi, h0, setB_same (heap_lt hb1)⟩
  refine ⟨_, List.mem_map.2 ⟨x, hx, rfl⟩, setB { w with drawn := n } (φ r).block (.mapIter (some (φ m).block) since (seen ++ [x.born]).toArray clock), ?_, ok_tup3 (by simp [Ok]) (hes x hmem).1 (hes x hmem).2, ⟨hset.1, hI.2⟩, hx'.trans hset.2⟩
  have hrun : (Instr.next (.pointer (some ⟨(φ r).block, 0, none⟩)) false o.type).run P w = .ok (.tuple #[.bool true, den φ x.key, den φ x.val]) (setB { w with drawn := n } (φ r).block (.mapIter (some (φ m).block) since (seen ++ [x.born]).toArray clock)) := by
    have hc2 : (((en :: rest).map (denE φ)).toArray.map some)[q]? = some (some (denE φ x)) := by
      rw [Array.getElem?_map, List.getElem?_toArray, List.getElem?_map, hget]; rfl
    simp only [Instr.next, Sem.run_bind, run_getObj h1 (by intro _ _ _ h; cases h), Result.andThen_ok, run_getObj hm1 (by intro _ _ _ h; cases h), hcheck, Bool.false_eq_true, if_false, Sem.run_pure, hleft, hfil]
    rw [hold, hnew]
    have he0 : ((en :: rest).map (denE φ)).toArray.isEmpty = false := by simp
    rw [he0]
    simp only [Bool.false_eq_true, if_false, Array.append_empty, Array.empty_append]
    have hsz : (Array.map some ((en :: rest).map (denE φ)).toArray).size = (en :: rest).length := by simp
    rw [hsz, hch]
    simp only [Result.andThen_ok, hc2, Sem.run_bind, run_setObj hb1 (by intro _ _ _ h; cases h), Sem.run_pure]
    simp [denE]
  have hit2 : a.eval it = .pointer (some ⟨(φ r).block, 0, none⟩) := by rw [hit]; simp [den, h0]
  simp only [execOp, hop, hit2, Sem.run_bind, hrun, Result.andThen_ok, Sem.run_pure]
  rw [den_tup3]; simp [den]
theorem opM_sound (hC : CxOk C P) {rec : Rec} (hrec : RecOk C P rec) {φ : Phi} {D : Nat → Prop} {s : St} {w : World} {e : E} {a : Act} {cf : Cf} {ops : Array Oper} {i : Nat} {rest : List Nat} {o : Oper} (ho : ops[i]? = some o)
    {u : FrameMode} {b : Frame} {k : List Item} {cs : List Frame} (hI : Inv C φ D s w) (he : ERel φ D e a) (hu : okM D u) (hB : BOk φ D cf b) (hcs : cf.dfr = true → cs ≠ []) :
    OutM C P φ D s w (lone (fat b a (.inRegion ops (i :: rest) :: k)) (csOf cf.dfr φ u cs) w) b (.inRegion ops rest :: k) cf.dfr cs (opM C rec cf ops.toList o e u s) := by
  unfold opM
  split
  · rename_i hwant
    split
    · rename_i l hl
      obtain ⟨hdc, p, hp, w', hrun, hok, hI', hx⟩ := many_next hC hI he hl
      have hw := wanted_sound he hwant
      refine ⟨_, List.mem_map.2 ⟨p, hp, rfl⟩, ?_⟩
      cases hput : e.put o.dst p.1 with
      | none => trivial
      | some e2 => exact ⟨φ, D, w', _, hI', he.put hok hput, hu, trivial, hx, .one (go_value ho hw (.inr hdc) hrun)⟩
    · exact .one (opStep_sound hC hrec ho hI he hu hB hcs)
  · exact .one (opStep_sound hC hrec ho hI he hu hB hcs)
theorem opsM_sound (hC : CxOk C P) {rec : Rec} (hrec : RecOk C P rec) {cf : Cf} {ops : Array Oper} {b : Frame} {k : List Item} {cs : List Frame} (hcs : cf.dfr = true → cs ≠ []) :
    ∀ (l : List Oper) (i : Nat) (φ : Phi) (D : Nat → Prop) (s : St) (w : World) (e : E) (a : Act) (u : FrameMode), (∀ j o, l[j]? = some o → ops[i + j]? = some o) →
      Inv C φ D s w → ERel φ D e a → okM D u → BOk φ D cf b →
      OutM C P φ D s w (lone (fat b a (.inRegion ops (List.range' i l.length) :: k)) (csOf cf.dfr φ u cs) w) b k cf.dfr cs (opsM C rec cf ops.toList l e u s)
  | [], i, φ, D, s, w, e, a, u, hl, hI, he, hu, hB => .one ⟨φ, D, w, a, hI, he, hu, trivial, Ext.refl .., .one go_region_end⟩
  | o :: r, i, φ, D, s, w, e, a, u, hl, hI, he, hu, hB => by
    have ho : ops[i]? = some o := by simpa using hl 0 o rfl
    have hr' : List.range' i (o :: r).length = i :: List.range' (i + 1) r.length := by simp [List.range']
    rw [hr']
    simp only [opsM]
    refine OutM.bind (i := .inRegion ops (List.range' (i + 1) r.length)) rfl (opM_sound hC hrec ho hI he hu hB hcs) ?_
    intro e1 u1 s1 φ1 D1 w1 a1 h1 h2 h3 h5
    exact opsM_sound hC hrec (k := k) hcs r (i + 1) φ1 D1 s1 w1 e1 a1 u1 (fun j o' hj => by
      have := hl (j + 1) o' (by simpa using hj)
      rw [show i + 1 + j = i + (j + 1) from by omega]; exact this) h1 h2 h3 (hB.mono h5.dom h5.phi)
def CodeMOk (C : Cx) (P : Program) (rec : Rec) (n : Nat) (c : Code) : Prop :=
  ∀ (cf : Cf) (φ : Phi) (D : Nat → Prop) (s : St) (w : World) (e : E) (a : Act) (u : FrameMode) (b : Frame) (k : List Item) (cs : List Frame), (cf.dfr = true → cs ≠ []) →
    Inv C φ D s w → ERel φ D e a → okM D u → BOk φ D cf b →
    OutM C P φ D s w (lone (fat b a (.code c :: k)) (csOf cf.dfr φ u cs) w) b k cf.dfr cs (codeM C rec n cf c e u s)
theorem iterM_sound {rec : Rec} {n : Nat} {body : Code} (hb : CodeMOk C P rec n body) {cf : Cf} {b : Frame} {k : List Item} {cs : List Frame} (hcs : cf.dfr = true → cs ≠ []) :
    ∀ (m : Nat) (φ : Phi) (D : Nat → Prop) (s : St) (w : World) (e : E) (a : Act) (u : FrameMode), Inv C φ D s w → ERel φ D e a → okM D u → BOk φ D cf b →
      OutM C P φ D s w (lone (fat b a (.code body :: .inLoop body :: k)) (csOf cf.dfr φ u cs) w) b k cf.dfr cs (iterM (codeM C rec n cf body) m e u s)
  | 0, φ, D, s, w, e, a, u, _, _, _, _ => ⟨.fail, List.mem_singleton.2 rfl, trivial⟩
  | m + 1, φ, D, s, w, e, a, u, hI, he, hu, hB => by
    simp only [iterM]
    refine OutM.bind (i := .inLoop body) rfl (hb cf φ D s w e a u b (.inLoop body :: k) cs hcs hI he hu hB) ?_
    intro e1 u1 s1 φ1 D1 w1 a1 h1 h2 h3 h5
    exact OutM.trans (Ext.refl ..) (.one go_inLoop) (iterM_sound hb hcs (k := k) m φ1 D1 s1 w1 e1 a1 u1 h1 h2 h3 (hB.mono h5.dom h5.phi))
theorem codeM_sound (hC : CxOk C P) {rec : Rec} (hrec : RecOk C P rec) (hdraw : DrawOk C P rec) (n : Nat) : ∀ (c : Code), CodeMOk C P rec n c
  | .region id ops d => fun cf φ D s w e a u b k cs hcs hI he hu hB => by
    cases d with
    | true => exact .one (code_sound hC hrec hdraw n (.region id ops true) cf φ D s w e a u b k cs hcs hI he hu hB)
    | false =>
      have := opsM_sound hC hrec (k := k) hcs ops.toList 0 φ D s w e a u (fun j o hj => by simpa using hj) hI he hu hB
      rw [Array.length_toList, ← List.range_eq_range'] at this
      exact OutM.trans (Ext.refl ..) (.one go_region) this
  | .seq x y => fun cf φ D s w e a u b k cs hcs hI he hu hB => by
    have h := codeM_sound hC hrec hdraw n x cf φ D s w e a u b (.code y :: k) cs hcs hI he hu hB
    simp only [codeM]
    refine OutM.bind (i := .code y) rfl (OutM.trans (Ext.refl ..) (.one go_seq) h) ?_
    intro e1 u1 s1 φ1 D1 w1 a1 h1 h2 h3 h5
    exact codeM_sound hC hrec hdraw n y cf φ1 D1 s1 w1 e1 a1 u1 b k cs hcs h1 h2 h3 (hB.mono h5.dom h5.phi)
  | .cond c x y => fun cf φ D s w e a u b k cs hcs hI he hu hB => by
    simp only [codeM]
    split
    · rename_i hc
      have hev := (eval_sound hC hI.1 he hc).1
      exact OutM.trans (Ext.refl ..) (.one (go_cond (t := true) (by rw [hev]; simp [den]))) (codeM_sound hC hrec hdraw n x cf φ D s w e a u b k cs hcs hI he hu hB)
    · rename_i hc
      have hev := (eval_sound hC hI.1 he hc).1
      exact OutM.trans (Ext.refl ..) (.one (go_cond (t := false) (by rw [hev]; simp [den]))) (codeM_sound hC hrec hdraw n y cf φ D s w e a u b k cs hcs hI he hu hB)
    · exact ⟨.fail, List.mem_singleton.2 rfl, trivial⟩
  | .block id x => fun cf φ D s w e a u b k cs hcs hI he hu hB => by
    obtain ⟨r, hr, h⟩ := codeM_sound hC hrec hdraw n x cf φ D s w e a u b (.inBlock id :: k) cs hcs hI he hu hB
    simp only [codeM]
    refine ⟨_, List.mem_map.2 ⟨r, hr, rfl⟩, ?_⟩
    cases r with
    | fail => trivial
    | fin x1 e1 u1 s1 =>
      obtain ⟨φ1, D1, w1, a1, h1, h2, h3, h4, h5, h6⟩ := h
      have h6' := Arr.of_steps (.one go_block) h6
      cases x1 with
      | normal => exact ⟨φ1, D1, w1, a1, h1, h2, h3, h4, h5, Steps.trans h6' (.one go_inBlock)⟩
      | exit j =>
        obtain ⟨kk, hk, hs⟩ := h6'
        simp only [inBlockA]
        cases hj : Nat.beq j id with
        | true =>
          rw [beq_iff] at hj
          subst hj
          refine ⟨φ1, D1, w1, a1, h1, h2, h3, trivial, h5, Steps.trans hs (.one (go_exit ?_))⟩
          rw [hk]; simp [exitTo]
        | false =>
          have hj' := beq_false hj
          refine ⟨φ1, D1, w1, a1, h1, h2, h3, trivial, h5, kk, ?_, hs⟩
          rw [hk]
          have : (id == j) = false := by simp; exact fun h => hj' h.symm
          simp [exitTo, this]
      | goto l' =>
        obtain ⟨kk, hk, hs⟩ := h6'
        exact ⟨φ1, D1, w1, a1, h1, h2, h3, h4, h5, kk, by rw [hk]; simp [gotoIn], hs⟩
      | ret => exact ⟨φ1, D1, w1, a1, h1, h2, h3, h4, h5, h6'⟩
      | panic ch => exact ⟨φ1, D1, w1, a1, h1, h2, h3, h4, h5, h6'⟩
  | .loop x => fun cf φ D s w e a u b k cs hcs hI he hu hB =>
    OutM.trans (Ext.refl ..) (.one go_loop) (iterM_sound (codeM_sound hC hrec hdraw n x) hcs n φ D s w e a u hI he hu hB)
  | .scope x => fun cf φ D s w e a u b k cs hcs hI he hu hB => by
    obtain ⟨r, hr, h⟩ := codeM_sound hC hrec hdraw n x cf φ D s w e a u b (.inScope x :: k) cs hcs hI he hu hB
    simp only [codeM]
    refine ⟨_, List.mem_map.2 ⟨r, hr, rfl⟩, ?_⟩
    cases r with
    | fail => trivial
    | fin x1 e1 u1 s1 =>
      obtain ⟨φ1, D1, w1, a1, h1, h2, h3, h4, h5, h6⟩ := h
      have h6' := Arr.of_steps (.one go_scope) h6
      cases x1 with
      | normal => exact ⟨φ1, D1, w1, a1, h1, h2, h3, h4, h5, Steps.trans h6' (.one go_inScope)⟩
      | exit j =>
        obtain ⟨kk, hk, hs⟩ := h6'
        exact ⟨φ1, D1, w1, a1, h1, h2, h3, h4, h5, kk, by rw [hk]; simp [exitTo], hs⟩
      | goto l' => trivial
      | ret => exact ⟨φ1, D1, w1, a1, h1, h2, h3, h4, h5, h6'⟩
      | panic ch => exact ⟨φ1, D1, w1, a1, h1, h2, h3, h4, h5, h6'⟩
  | .skip => fun cf φ D s w e a u b k cs hcs hI he hu hB => .one (code_sound hC hrec hdraw n .skip cf φ D s w e a u b k cs hcs hI he hu hB)
  | .label l => fun cf φ D s w e a u b k cs hcs hI he hu hB => .one (code_sound hC hrec hdraw n (.label l) cf φ D s w e a u b k cs hcs hI he hu hB)
  | .rangeFunc f ps x y => fun cf φ D s w e a u b k cs hcs hI he hu hB => .one (code_sound hC hrec hdraw n (.rangeFunc f ps x y) cf φ D s w e a u b k cs hcs hI he hu hB)
  | .exit id => fun cf φ D s w e a u b k cs hcs hI he hu hB => .one (code_sound hC hrec hdraw n (.exit id) cf φ D s w e a u b k cs hcs hI he hu hB)
  | .goto l => fun cf φ D s w e a u b k cs hcs hI he hu hB => .one (code_sound hC hrec hdraw n (.goto l) cf φ D s w e a u b k cs hcs hI he hu hB)
  | .ret => fun cf φ D s w e a u b k cs hcs hI he hu hB => .one (code_sound hC hrec hdraw n .ret cf φ D s w e a u b k cs hcs hI he hu hB)
  | .refuse _ => fun cf φ D s w e a u b k cs hcs hI he hu hB => ⟨.fail, List.mem_singleton.2 rfl, trivial⟩
theorem end_out (hC : CxOk C P) {rec : Rec} (hrec : RecOk C P rec) {n : Nat} {f : FuncId} {fn : Func} (hf : P.funcs[f]? = some fn) {φ : Phi} {D : Nat → Prop} {s : St} {w : World} {b : Frame} {m : Machine} {cs : List Frame}
    (hbf : b.fn = f) (hbk : b.kind = .normal) (hbr : b.roundOf = none) {res : COut}
    (hbody : Out C P φ D s w m b [] false cs res) : CallOut C P f false φ D s w m cs (endC C rec fn n res) := by
  cases res with
  | fail => trivial
  | fin x e1 u1 s1 =>
    obtain ⟨φ1, D1, w1, a1, h1, h2, h3, h4, h5, h6⟩ := hbody
    have start : ∀ mm, (∃ todo, Steps P m (lone { fat b a1 todo with mode := denM φ1 mm } (csOf false φ1 u1 cs) w1)) → okM D1 mm →
        CallOut C P f false φ D s w m cs (leaveA C rec fn u1 e1 n e1.defers mm s1) := by
      intro mm ⟨todo, hst⟩ hm
      have hl := leave_sound hC hrec (fn := fn) (u0 := u1) (e := e1) (cs := csOf false φ1 u1 cs) n e1.defers mm φ1 D1 s1 w1 { fat b a1 todo with mode := denM φ1 mm } h1 h2.tmps rfl hm
        (by rw [show ({ fat b a1 todo with mode := denM φ1 mm } : Frame).defers = a1.defers from rfl, h2.defers]) h2.ok
      generalize leaveA C rec fn u1 e1 n e1.defers mm s1 = out at hl
      cases out with
      | fail => trivial
      | returned v u' s' =>
        obtain ⟨rfl, φ', D', w', fr', q1, q2, q3, q4, q5, q6, q7, q8, q9⟩ := hl
        have hx := h5.trans q2
        refine ⟨φ', D', w', fr', q1, hx, q3, okM.mono q2.dom h3, ?_, q5.trans hbf, q6.trans hbk, q7, q8, fn, hf, q9⟩
        rw [← csOf_congr (fun i hi => (q2.phi i hi).symm) h3 cs]
        exact hst.trans q4
      | panicked ch u' s' =>
        obtain ⟨rfl, φ', D', w', fr', q1, q2, q3, q4, q5, q6, q7, q8⟩ := hl
        have hx := h5.trans q2
        refine ⟨φ', D', w', fr', q1, hx, q3, okM.mono q2.dom h3, ?_, q5.trans hbf, q6.trans hbk, q7, q8, fn, hf⟩
        rw [← csOf_congr (fun i hi => (q2.phi i hi).symm) h3 cs]
        exact hst.trans q4
    cases x with
    | normal => exact start .returning ⟨[], Steps.trans h6 (.one (go_leave_end hbr))⟩ trivial
    | ret =>
      obtain ⟨kk, h6⟩ := h6
      exact start .returning ⟨_, h6.trans (.one (go_leave_ret hbr))⟩ trivial
    | panic ch =>
      obtain ⟨todo, h6⟩ := h6
      exact start (.panicking ch) ⟨todo, h6⟩ h4
    | exit id => trivial
    | goto l => trivial
theorem callM_sound (hC : CxOk C P) {rec : Rec} (hrec : RecOk C P rec) (hdraw : DrawOk C P rec) (n : Nat) (f : FuncId) (args : List Value) (s : St) (φ : Phi) (D : Nat → Prop) (w : World)
    (hI : Inv C φ D s w) (hargs : OkL D args) (cs : List Frame) :
    ∃ r ∈ callM C rec n f args s, CallOut C P f false φ D s w (lone (Frame.enter P f (denL φ args).toArray .normal) cs w) cs r := by
  unfold callM
  split
  · exact ⟨.fail, List.mem_singleton.2 rfl, trivial⟩
  rename_i fn hfn
  have hf := hC.func f fn hfn
  split
  · exact ⟨.fail, List.mem_singleton.2 rfl, trivial⟩
  rename_i c hc
  cases hle : Nat.ble args.length fn.ntmps with
  | false => exact ⟨.fail, List.mem_singleton.2 rfl, trivial⟩
  | true =>
    simp only [cond_true]
    have hlen : args.length ≤ fn.ntmps := Nat.le_of_ble_eq_true hle
    rw [enter_fat (denL φ args).toArray .normal hf hc]
    generalize hb : ({ fn := f, tmps := #[], todo := [], defers := [], mode := .run, kind := .normal } : Frame) = b
    have hbf : b.fn = f := by rw [← hb]
    have hbk : b.kind = .normal := by rw [← hb]
    have hbr : b.roundOf = none := by rw [← hb]
    have hB : BOk φ D ⟨f, false, none⟩ b := ⟨hbf, hbk, hbr, by intro l h; cases h⟩
    have he : ERel φ D { tmps := argsT args 0 .nil, n := fn.ntmps, defers := [] } { tmps := (denL φ args).toArray ++ Array.replicate (fn.ntmps - (denL φ args).toArray.size) undef, defers := [] } :=
      ⟨args_rel hlen hargs, rfl, by intro d h; cases h⟩
    obtain ⟨r, hr, hbody⟩ := codeM_sound hC hrec hdraw n c ⟨f, false, none⟩ φ D s w _ _ .run b [] cs (by intro h; cases h) hI he trivial hB
    exact ⟨_, List.mem_map.2 ⟨r, hr, rfl⟩, end_out hC hrec hf hbf hbk hbr hbody⟩
def OverOk (C : Cx) (P : Program) (over : FuncId → List Value → St → Option Value) : Prop :=
  ∀ f args s v φ D w, over f args s = some v → Inv C φ D s w → OkL D args →
    closedB v = true ∧ Calls P f (denL φ args).toArray w fun e w' => e = .returned v ∧ Below w.heap.size w w'
theorem noOver_ok : OverOk C P noOver := fun f args s v φ D w h => by cases h
theorem below_rel' {φ : Phi} {D : Nat → Prop} {s : St} {w w' : World} (hI : Inv C φ D s w) (hb : Below w.heap.size w w') : Inv C φ D s w' ∧ Ext φ D s.heap w φ D s.heap w' :=
  ⟨⟨⟨hI.1.dom, fun i b hi => (hI.1.blk i b hi).mono (fun _ h => h) (fun _ _ => rfl) (hb.block _ (hI.1.blk i b hi).lt), hI.1.sep, hI.1.glob⟩, hI.2⟩,
    ⟨fun _ h => h, fun _ _ => rfl, hb.size, hb.os, hb.tape, hb.output, fun k hk _ => hb.block k hk, fun i bi hi hw _ => ⟨i, bi, hi, hw, rfl⟩, fun i bi hi _ => ⟨i, bi, hi, rfl⟩⟩⟩
theorem recM_step (hC : CxOk C P) {over : FuncId → List Value → St → Option Value} (hover : OverOk C P over) (many : Nat → Bool) {rec : Rec} (hrec : RecOk C P rec) (hdraw : DrawOk C P rec) (n : Nat) :
    RecOk C P { call := callN C over many rec n, round := roundA C rec n } := by
  have base := rec_step hC hrec hdraw n
  refine ⟨?_, fun f args u s φ D w hI hargs hu => base.callD f args u s φ D w hI hargs hu, base.round⟩
  intro f args s φ D w hI hargs
  have h0 := base.call f args s φ D w hI hargs
  simp only [callN]
  cases hs : over f args s with
  | some v =>
    simp only
    intro cs
    obtain ⟨hv, hcall⟩ := hover f args s v φ D w hs hI hargs
    obtain ⟨e, w', fr, ⟨he, hb⟩, h1, h2, h3⟩ := hcall cs
    subst he
    obtain ⟨q1, q2⟩ := below_rel' hI hb
    exact ⟨φ, D, w', fr, q1, q2, (closed_den φ D v hv).2, by simpa [Comes] using h1, h2, by rw [(closed_den φ D v hv).1]; exact h3⟩
  | none =>
  simp only
  cases hm : many f with
  | false => exact h0
  | true =>
    simp only [cond_true]
    have hless := agreeL_less (callM C rec n f args s)
    have hall := callM_sound hC hrec hdraw n f args s φ D w hI hargs
    generalize agreeL (callM C rec n f args s) = out at hless
    cases out with
    | fail => trivial
    | returned v u s1 =>
      intro cs
      obtain ⟨r, hr, ho⟩ := hall cs
      have hl := hless r hr
      cases r with
      | fail => cases hl
      | panicked _ _ _ => cases hl
      | returned v' u' s' =>
        obtain ⟨rfl, hn, hh⟩ := hl
        obtain ⟨φ', D', w', fr, q1, q2, q3, q4, q5, q6, q7, q8, q9, q10⟩ := ho
        have hI' := q1.forget hh
        have e : ({ s' with heap := s1.heap } : St) = s1 := by cases s1; cases s'; cases hn; rfl
        rw [e] at hI'
        exact ⟨φ', D', w', fr, hI', q2.forget hh, q3, q5, q6, q8, q9, q7, by rw [q6]; exact q10⟩
    | panicked ch u s1 =>
      intro cs
      obtain ⟨r, hr, ho⟩ := hall cs
      have e : FOut.panicked ch u s1 = r := hless r hr
      subst e
      obtain ⟨φ', D', w', fr, q1, q2, q3, q4, q5, q6, q7, q8, q9, q10⟩ := ho
      exact ⟨φ', D', w', fr, q1, q2, q3, q5, q6, q8, q9, by rw [q6]; exact q10⟩
theorem recM_sound (hC : CxOk C P) {over : FuncId → List Value → St → Option Value} (hover : OverOk C P over) (many : Nat → Bool) : ∀ n, RecOk C P (recM C over many n)
  | 0 => ⟨fun _ _ _ _ _ _ _ _ => trivial, fun _ _ _ _ _ _ _ _ _ _ => trivial, fun _ _ _ _ _ _ _ _ _ _ _ _ _ => trivial⟩
  | n + 1 => recM_step hC hover many (recM_sound hC hover many n) (draw_sound hC (recM_sound hC hover many n)) n
theorem closed_callG (hC : CxOk C P) {over : FuncId → List Value → St → Option Value} (hover : OverOk C P over) (many : Nat → Bool) {n f : Nat} {h0 : T Blk}
    (h : retTrue ((recM C over many n).call false f [] .run ⟨h0, C.globals⟩) = true) (w : World)
    (hr : Rel C (fun g => ⟨g, 0, 0, none⟩) (fun i => i < C.globals) h0 w) (hnw : ∀ i b, h0.get i = some b → writable b = false) :
    Calls P f #[] w fun e w' => e = .returned (.bool true) ∧ Below w.heap.size w w' := by
  have hI : Inv C (fun g => ⟨g, 0, 0, none⟩) (fun i => i < C.globals) ⟨h0, C.globals⟩ w := ⟨hr, fun i h => h⟩
  have hcall := (recM_sound hC hover many n).call f [] ⟨h0, C.globals⟩ _ _ w hI trivial
  generalize (recM C over many n).call false f [] .run ⟨h0, C.globals⟩ = out at h hcall
  cases out with
  | returned v u s' =>
    have hv : v = .bool true := by
      cases v with
      | bool b => cases b with
        | true => rfl
        | false => simp [retTrue] at h
      | _ => simp [retTrue] at h
    subst hv
    intro cs
    obtain ⟨φ', D', w', fr, h1, h2, h3, h4, h5, h6⟩ := hcall cs
    refine ⟨.returned (.bool true), w', fr, ⟨rfl, ⟨h2.os, h2.tape, h2.output, h2.size, fun k hk => h2.frame k hk fun i bi hi hw => by rw [hnw i bi hi] at hw; cases hw⟩⟩, ?_, h5, ?_⟩
    · simpa [denL, Comes] using h4
    · simpa [den] using h6
  | panicked ch u s' => simp [retTrue] at h
  | fail => simp [retTrue] at h
theorem closed_callM (hC : CxOk C P) (many : Nat → Bool) {n f : Nat} (h : retTrue ((recM C noOver many n).call false f [] .run ⟨.nil, C.globals⟩) = true) (w : World) :
    Calls P f #[] w fun e w' => e = .returned (.bool true) ∧ Below w.heap.size w w' :=
  closed_callG hC noOver_ok many h w
    ⟨fun i b h => (by rw [T.get_nil] at h; cases h), fun i b h => (by rw [T.get_nil] at h; cases h), fun i j bi bj h => (by rw [T.get_nil] at h; cases h), fun g hg => ⟨hg, rfl⟩⟩
    (fun i b h => (by rw [T.get_nil] at h; cases h))
end
end Go.Eng
namespace Go.Eng
set_option linter.unusedSimpArgs false
open Go.RowKit
set_option linter.unusedVariables false
def overIdx (idx : List Nat) (g : Nat) (f : FuncId) (args : List Value) (s : St) : Option Value :=
  bif memN f idx then
    match args with
    | [.string a, .string b] => match s.heap.get g with
      | some (.cells (.int .i64 _ :: _) _ _ _) => bif Nat.blt a.data.toList.length 4294967281 then some (.int .i64 (Lib.index a.data.toList b.data.toList)) else none
      | _ => none
    | _ => none
  else none
theorem overIdx_ok {C : Cx} {P : Program} {idx : List Nat} {g : Nat} (hg : g < C.globals)
    (h : ∀ f ∈ idx, ∀ (a b : ByteArray) (m : Int) (w : World), a.size < 4294967281 → w.cell? ⟨g, 0, none⟩ = some (.int .i64 m) →
      Calls P f #[.string a, .string b] w fun e w' => e = .returned (.int .i64 (Lib.index a.data.toList b.data.toList)) ∧ w' = w) : OverOk C P (overIdx idx g) := by
  intro f args s v φ D w hv hI hargs
  unfold overIdx at hv
  replace hv := bool_split hv; rcases hv with ⟨hf, hv⟩ | ⟨_, hv⟩
  case inr => cases hv
  split at hv
  case h_2 => cases hv
  rename_i a b
  split at hv
  case h_2 => cases hv
  rename_i m r el st par hget
  replace hv := bool_split hv; rcases hv with ⟨hl, hv⟩ | ⟨_, hv⟩
  case inr => cases hv
  cases hv
  refine ⟨rfl, ?_⟩
  rw [memN_eq] at hf
  have hmem : f ∈ idx := by simpa using hf
  rw [blt_iff] at hl
  have hcell : w.cell? ⟨g, 0, none⟩ = some (.int .i64 m) := by
    obtain ⟨_, c, el, fr, sz, h1, h2, h3, h4, _⟩ := hI.1.blk g _ hget
    have hφ := (hI.1.glob g hg).2
    rw [hφ] at h1 h4
    have := h4 0 (.int .i64 m) rfl
    simp only [den] at this
    simp only [World.cell?, h1]
    simpa using this
  have hden : (denL φ [.string a, .string b]).toArray = #[.string a, .string b] := by simp [denL, den]
  rw [hden]
  exact (h f hmem a b m w hl hcell).mono fun e w' ⟨h1, h2⟩ => ⟨h1, by subst h2; exact Below.refl _ _⟩
theorem rel_one {C : Cx} {w : World} {g t : Nat} {v : Value} {cs : Array Value} {fr : Nat × Nat} (hg : g < C.globals) (ht : C.size t = some 1) (hw : w.heap[g]? = some (.cells cs t fr)) (hv : cs[0]? = some v) (hd : ∀ φ, den φ v = v) (hok : ∀ D, Ok D v) :
    Rel C (fun g => ⟨g, 0, 0, none⟩) (fun i => i < C.globals) ((T.nil : T Blk).set g (.cells [v] t 2 none)) w := by
  have key : ∀ i b, ((T.nil : T Blk).set g (.cells [v] t 2 none)).get i = some b → i = g ∧ b = .cells [v] t 2 none := by
    intro i b h
    rw [T.get_set, T.get_nil] at h
    split at h
    · rename_i e; cases h; exact ⟨e, rfl⟩
    · cases h
  have hsz : 0 < cs.size := by
    rw [Array.getElem?_eq_some_iff] at hv
    exact hv.1
  refine ⟨fun i b h => ?_, fun i b h => ?_, fun i j bi bj hi hj hwr => ?_, fun g hg => ⟨hg, rfl⟩⟩
  · obtain ⟨rfl, _⟩ := key i b h; exact hg
  · obtain ⟨rfl, rfl⟩ := key i b h
    refine ⟨⟨hok _, trivial⟩, cs, _, fr, 1, hw, ht, ?_, ?_, ?_⟩
    · simp; omega
    · intro j u hj
      cases j with
      | zero => simp at hj; subst hj; rw [hd]; simpa using hv
      | succ j => simp at hj
    · intro h; omega
  · obtain ⟨rfl, rfl⟩ := key i bi hi
    simp [writable] at hwr
end Go.Eng
namespace Go.Eng
set_option linter.unusedSimpArgs false
open Go.RowKit
set_option linter.unusedVariables false
variable {H : Type} {enc : TypeId × Value → H}
theorem handed_of_change_andS {a : Assume} {C : Checked} {os : Os} {f : FuncId} {fn : Func} {s : ChangeSpec} {conds : List PathCond} {apart fresh handsOn again : Bool} {X : World → Array Value → Prop}
    (hX : ∀ (w w' : World) (args : Array Value), w.heap = w'.heap → X w args → X w' args)
    (own : ownKnob C.prog.godebug = none) (started : os.Started) (noInit : C.prog.inits.idxOf? f = none) (hfn : C.prog.funcs[f]? = some fn)
    (witness : ∃ (w : World) (tape : Tape) (i : Input), w.os = os ∧ (w.forCall tape i).Shaped C.prog ∧ i.vars = [] ∧ Input.okWide C.prog (w.forCall tape i) .any w.heap.size f i ∧
      ((s.pre enc C.prog fn conds apart (w.forCall tape i).memory i.args ∧ X (w.forCall tape i).memory i.args) ∧ sizedMet enc C.prog fn (OpenSpec.ofChange s) apart (w.forCall tape i).memory i.args) ∧ a.holds C.prog (lone (Frame.enter C.prog f i.args .normal) [] (w.forCall tape i)))
    (contract : ∀ (W : World) (base : Nat) (args : Array Value) (ds gs : List (DataW H)) (before : List MemPlace),
      (∀ (j : Nat) t v, fn.params[j]? = some t → args[j]? = some v → Value.okWide C.prog W .any base t v) →
      DataW.Whole enc C.prog fn.params.toList s.vars apart W args.toList ds gs before →
      conds.all (PathCond.test C.prog ⟨fn.params.toList, ds, s.plain.varTypes C.prog, gs⟩) = true →
      (DataW.weightsEach C.prog (fn.params.toList ++ s.plain.varTypes C.prog) (ds ++ gs)).all (· ≤ reachBytes) = true →
      W.ShapedOpen C.prog → X W args →
      a.holds C.prog (lone (Frame.enter C.prog f args .normal) [] W) →
      Calls C.prog f args W fun e W' => ∃ v, e = .returned v ∧ s.post enc C.prog fn apart fresh handsOn again W args v W') :
    ReturnsInHanded a C os f .any (fun w args => (s.pre enc C.prog fn conds apart w args ∧ X w args) ∧ sizedMet enc C.prog fn (OpenSpec.ofChange s) apart w args) (s.post enc C.prog fn apart fresh handsOn again) := by
  refine returnsInHanded_of_calls own started noInit witness ?_
  intro w tape i _ hsh _ hok hpre hholds
  obtain ⟨_, _, _, fn', hfn', _, _, _, _, hval⟩ := hok
  have e : fn' = fn := Option.some.inj (hfn'.symm.trans hfn)
  subst e
  obtain ⟨⟨⟨ds, gs, before, hw, hc⟩, hx⟩, hz⟩ := hpre
  have hw' := DataW.Whole.of_heap (w' := w.forCall tape i) (by rfl) hw
  refine (contract (w.forCall tape i) w.heap.size i.args ds gs before hval hw' hc (hz.weights hw) hsh (hX _ _ _ (by rfl) hx) hholds).mono fun e W' ⟨v, he, hp⟩ => ?_
  subst he
  exact ChangeSpec.post_blind hp
theorem cells_of_shape {P : Program} {w : World} {g t : Nat} {zero : Array Value} {k : IntKind}
    (h : w.ShapedOpen P) (hg : g < P.globals.size)
    (h0 : ((begin P (fun _ _ => 0) default).world.heap[g]?).bind Obj.row? = some (zero, t)) (hz : zero.size = 1)
    (hb : P.buildable t = true) (hc : P.cellTypes P.depth t = some [t]) (hu : P.underlying t = some (.int k)) :
    ∃ m cs fr, w.heap[g]? = some (.cells cs t fr) ∧ cs[0]? = some (.int k m) := by
  obtain ⟨cs, hh, hs, hr⟩ := h.1 g zero t hg h0
  obtain ⟨ts, hts, _, hall⟩ := hr hb
  rw [hc] at hts
  cases hts
  have h1 : 0 < cs.size := by omega
  obtain ⟨u, hu', hok⟩ := hall 0 cs[0] (by simp [h1])
  have : u = t := by simpa using hu'.symm
  subst this
  unfold Cell.ok at hok
  rw [hu] at hok
  have hcs : cs[0]? = some cs[0] := by simp [h1]
  cases hv : cs[0] <;> rw [hv] at hok <;> simp at hok
  case int k' n => exact ⟨n, cs, _, hh, by rw [hcs, hv, hok.1]⟩
def cellsD : DataW Unit → List Value
  | .agg l => l.filterMap fun d => match d with
    | .lit (.int k n) => some (.int k n)
    | _ => none
  | _ => []
noncomputable def laidAt (w : World) (g : Nat) (d : DataW Unit) : World :=
  { w with heap := w.heap.modify g fun o => match o with
      | .cells _ t fr => .cells (cellsD d).toArray t fr
      | o => o }
end Go.Eng
