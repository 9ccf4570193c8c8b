/- The abstract interpreter, step by step: a run may be cut in pieces. -/
import Derived.Test.YtomadfkddfbcoaaGreatEngDef
noncomputable section
namespace Go.Eng
set_option linter.unusedVariables false
set_option linter.unusedSimpArgs false

/-- What is still to be done. The numbers p tell where in a body a piece of code lies. -/
inductive Fr where
  | seq (b : Code) (p : List Nat) (n : Nat) (cf : Cf)
  | block (id : Nat)
  | loop (b : Code) (p : List Nat) (n q : Nat) (cf : Cf)
  | scope
  | ops (n : Nat) (cf : Cf) (p : List Nat) (all r : List Oper)
  | put (dst : Option Tmp) (e : E) (u : FrameMode)
  | body (f : FuncId) (fn : Func) (n : Nat)
  | rng (l : Nat) (e : E) (u : FrameMode)
  | rbody (l : Nat)
  | heavy (n : Nat) (cf : Cf) (p : List Nat) (g : Rg) (u : FrameMode) (r : List Oper) (i m : Nat) (V : T Value) (pend : List (Nat × Oper)) (M : T Info) (q : Pt) (pts : List Pt)

inductive Cfg where
  | code (c : Code) (p : List Nat) (n : Nat) (cf : Cf) (e : E) (u : FrameMode) (s : St) (K : List Fr)
  | ops (n : Nat) (cf : Cf) (p : List Nat) (all r : List Oper) (e : E) (u : FrameMode) (s : St) (K : List Fr)
  | pass (n : Nat) (cf : Cf) (p : List Nat) (g : Rg) (u : FrameMode) (r : List Oper) (i : Nat) (V : T Value) (pend : List (Nat × Oper)) (q : Pt) (s : St) (pts : List Pt) (K : List Fr)
  | cout (x : COut) (K : List Fr)
  | fout (x : FOut) (K : List Fr)

def putC (dst : Option Tmp) (e : E) (u : FrameMode) (x : FOut) : COut := match x with
  | .returned v _ s => match e.put dst v with
    | some e => .fin .normal e u s
    | none => .fail
  | .panicked chain _ s => .fin (.panic chain) e u s
  | .fail => .fail

def bodyC (C : Cx) (fn : Func) (n : Nat) (x : COut) : FOut := match x with
  | .fin .normal e u s | .fin .ret e u s => leaveA C (recOf C n) fn u e n e.defers .returning s
  | .fin (.panic chain) e u s => leaveA C (recOf C n) fn u e n e.defers (.panicking chain) s
  | _ => .fail

/-- The end of a region that draws its order. -/
def finC (C : Cx) (rec : Rec) (g : Rg) (u : FrameMode) (x : Option (T Value × List Pt × T Info × Nat × Nat × DEnd)) : COut :=
  match x with
  | some (V, pts, M, H, nx, d) => bif infosA V M nx g.ops 0 [] && (pts.all fun q => quietAll C rec g V M H nx q g.ops 0) then
      match d with
      | .fin s1 => match putsA V M g.ops 0 g.base with
        | some e => .fin .normal e u s1
        | none => .fail
      | .pan ch s1 => match dropA g.ops g.base with
        | some e => .fin (.panic ch) e u s1
        | none => .fail
    else .fail
  | none => .fail

/-- A heavy operation's call is back. -/
def heavyC (C : Cx) (n : Nat) (g : Rg) (u : FrameMode) (r : List Oper) (i m : Nat) (V : T Value) (pend : List (Nat × Oper)) (M : T Info) (q : Pt) (pts : List Pt) (x : FOut) : COut :=
  match x with
  | .returned v _ s2 => match V.get i with
    | none => finC C (recOf C n) g u (passA C (recOf C n) g r (i + 1) (V.set i v) pend ⟨s2, M, Nat.lor q.done (Nat.shiftLeft 1 i), Nat.lor q.clos m⟩ s2 (q :: pts))
    | some _ => .fail
  | _ => .fail

/-- A range over a function is left. -/
def rngC (l : Nat) (e' : E) (u : FrameMode) (x : FOut) : COut :=
  match x with
  | .returned _ _ s => match s.heap.get l with
    | some (.loop r) => match r.state with
      | .busy => .fail
      | _ => match r.pending with
        | none => .fin .normal e' u { s with heap := s.heap.set l (.loop { r with state := .exhausted }) }
        | some c => match exitOf c with
          | some x => .fin x e' u { s with heap := s.heap.set l (.loop { r with state := .exhausted }) }
          | none => .fail
    | _ => .fail
  | .panicked chain _ s => .fin (.panic chain) e' u s
  | .fail => .fail

/-- A round is done. -/
def rbodyC (l : Nat) (x : COut) : FOut :=
  match x with
  | .fin (.panic chain) e _ s => match e.defers with
    | [] => .panicked chain .run s
    | _ => .fail
  | .fin x _ _ s => match s.heap.get l with
    | some (.loop r) => match x with
      | .normal => .returned (.bool true) .run { s with heap := s.heap.set l (.loop { r with state := .ready, pending := none }) }
      | x => match codeOf x with
        | some c => .returned (.bool false) .run { s with heap := s.heap.set l (.loop { r with state := .done, pending := some c }) }
        | none => .fail
    | _ => .fail
  | .fail => .fail

def eqTmps : List Tmp → List Tmp → Bool
  | [], [] => true
  | a :: x, b :: y => Nat.beq a b && eqTmps x y
  | _, _ => false
/-- Where a loop's body lies (for print alone). -/
def pathOf (ps : List Tmp) : Code → List Nat → Option (List Nat)
  | .seq a b, p => match pathOf ps a (p ++ [0]) with
    | some q => some q
    | none => pathOf ps b (p ++ [1])
  | .cond _ a b, p => match pathOf ps a (p ++ [0]) with
    | some q => some q
    | none => pathOf ps b (p ++ [1])
  | .block _ b, p => pathOf ps b (p ++ [0])
  | .loop b, p => pathOf ps b (p ++ [0])
  | .scope b, p => pathOf ps b (p ++ [0])
  | .rangeFunc _ qs a b, p => bif eqTmps ps qs.toList then some (p ++ [1]) else match pathOf ps a (p ++ [0]) with
    | some q => some q
    | none => pathOf ps b (p ++ [1])
  | _, _ => none
def pathAt (C : Cx) (f : FuncId) (ps : List Tmp) : List Nat := match C.funcs.get f with
  | some fn => match fn.body with
    | some c => match pathOf ps c [] with
      | some p => p
      | none => []
    | none => []
  | none => []

def thenC (x : COut) (k : E → FrameMode → St → COut) : COut := match x with
  | .fin .normal e u s => k e u s
  | x => x

def scopeC (x : COut) : COut := match x with
  | .fin (.goto _) _ _ _ => .fail
  | x => x

mutual
/-- What comes of it at last. -/
def denC (C : Cx) : List Fr → COut → FOut
  | [], _ => .fail
  | .seq b p n cf :: K, x => denC C K (thenC x (codeA C (recOf C n) n cf b))
  | .block id :: K, x => denC C K (inBlockA id x)
  | .loop b p n q cf :: K, x => denC C K (thenC x (iterA (codeA C (recOf C n) n cf b) q))
  | .scope :: K, x => denC C K (scopeC x)
  | .ops n cf p all r :: K, x => denC C K (thenC x (opsA C (recOf C n) cf all r))
  | .body f fn n :: K, x => denF C K (bodyC C fn n x)
  | .rbody l :: K, x => denF C K (rbodyC l x)
  | .rng _ _ _ :: _, _ => .fail
  | .put _ _ _ :: _, _ => .fail
  | .heavy _ _ _ _ _ _ _ _ _ _ _ _ _ :: _, _ => .fail
def denF (C : Cx) : List Fr → FOut → FOut
  | [], x => x
  | .put dst e u :: K, x => denC C K (putC dst e u x)
  | .rng l e u :: K, x => denC C K (rngC l e u x)
  | .heavy n _ _ g u r i m V pend M q pts :: K, x => denC C K (heavyC C n g u r i m V pend M q pts x)
  | _ :: _, _ => .fail
end

def den' (C : Cx) : Cfg → FOut
  | .code c p n cf e u s K => denC C K (codeA C (recOf C n) n cf c e u s)
  | .ops n cf p all r e u s K => denC C K (opsA C (recOf C n) cf all r e u s)
  | .pass n cf p g u r i V pend q s pts K => denC C K (finC C (recOf C n) g u (passA C (recOf C n) g r i V pend q s pts))
  | .cout x K => denC C K x
  | .fout x K => denF C K x

/-- One operation of a region that draws its order. -/
def stepPass (C : Cx) (n : Nat) (cf : Cf) (p : List Nat) (g : Rg) (u : FrameMode) (o : Oper) (r : List Oper) (i : Nat) (V : T Value) (pend : List (Nat × Oper)) (q : Pt) (s : St) (pts : List Pt) (K : List Fr) : Cfg :=
  match g.cls.get i, V.get i with
  | some m, none =>
    bif heavyB C g.cls q.done i m o r then
      bif subB q.done m then
        match mergeA C (recOf C n) g (bitB m) pend V q.M s with
        | none => .cout .fail K
        | some (V, M, s1, pend) => bif knownAllA V M m g.ops.length then
            match n, wantedA g.ops (g.env i m V M o) o, opA C (g.env i m V M o) o s1 with
            | k + 1, some true, .ok (.enter f args) s' =>
              match C.funcs.get f with
              | some fn => match fn.body with
                | some c => bif Nat.ble args.length fn.ntmps then
                    .code c [] k ⟨f, false, none⟩ { tmps := argsT args 0 .nil, n := fn.ntmps, defers := [] } .run s' (.body f fn k :: .heavy (k + 1) cf p g u r i m V pend M q pts :: K)
                  else .cout .fail K
                | none => .cout .fail K
              | none => .cout .fail K
            | n, _, _ => match stepV C (recOf C n) g.ops o (g.env i m V M o) s1 with
              | none => match stepP C (recOf C n) g.ops o (g.env i m V M o) s1 with
                | none => .cout .fail K
                | some (ch, s2) => match restA C (recOf C n) g i r (i + 1) V pend M s1 with
                  | some (V, M, s3) => .cout (finC C (recOf C n) g u (some (V, q :: pts, M, Nat.lor q.done (Nat.shiftLeft 1 i), s3.next, .pan ch s2))) K
                  | none => .cout .fail K
              | some (v, s2) => match V.get i with
                | none => .pass n cf p g u r (i + 1) (V.set i v) pend ⟨s2, M, Nat.lor q.done (Nat.shiftLeft 1 i), Nat.lor q.clos m⟩ s2 (q :: pts) K
                | some _ => .cout .fail K
          else .cout .fail K
      else .cout .fail K
    else match stepV C (recOf C n) g.ops o (g.env i m V q.M o) s with
      | none => .pass n cf p g u r (i + 1) V (pend ++ [(i, o)]) q s pts K
      | some (v, s1) => bif Nat.beq s1.next s.next then .pass n cf p g u r (i + 1) (V.set i v) pend q s pts K
        else .pass n cf p g u r (i + 1) V (pend ++ [(i, o)]) q s pts K
  | _, _ => .cout .fail K

def stepOps (C : Cx) (n : Nat) (cf : Cf) (p : List Nat) (all : List Oper) (o : Oper) (r : List Oper) (e : E) (u : FrameMode) (s : St) (K : List Fr) : Cfg :=
  match n, wantedA all e o, commA C e o s, opA C e o s with
  | m + 1, some true, none, .ok (.enter f args) s' =>
    match C.funcs.get f with
    | some fn => match fn.body with
      | some c => bif Nat.ble args.length fn.ntmps then
          .code c [] m ⟨f, false, none⟩ { tmps := argsT args 0 .nil, n := fn.ntmps, defers := [] } .run s' (.body f fn m :: .put o.dst e u :: .ops n cf p all r :: K)
        else .cout .fail K
      | none => .cout .fail K
    | none => .cout .fail K
  | m + 1, some true, none, .ok (.round l args) s' =>
    match s'.heap.get l with
    | some (.loop r0) => bif Nat.beq args.length r0.params.size && (C.funcs.get r0.fn).isSome then
        match codeA C (recOf C m) m ⟨r0.fn, false, some l⟩ r0.assign { tmps := paramsT r0.params.toList args r0.tmps, n := r0.ntm, defers := [] } .run s' with
        | .fin .normal e1 _ s1 => match s1.heap.get l with
          | some (.loop r1) => match r1.state with
            | .ready => .code r0.body (pathAt C r0.fn r0.params.toList) m ⟨r0.fn, false, some l⟩ e1 .run { s1 with heap := s1.heap.set l (.loop { r1 with state := .busy }) } (.rbody l :: .put o.dst e u :: .ops (m + 1) cf p all r :: K)
            | _ => .cout .fail K
          | _ => .cout .fail K
        | _ => .cout .fail K
      else .cout .fail K
    | _ => .cout .fail K
  | n, _, _, _ => match opStep C (recOf C n) cf all o e u s with
    | .fin .normal e u s => .ops n cf p all r e u s K
    | x => .cout x K

/-- One step. -/
def stepC (C : Cx) : Cfg → Cfg
  | .code c p n cf e u s K => match c with
    | .seq a b => .code a (p ++ [0]) n cf e u s (.seq b (p ++ [1]) n cf :: K)
    | .cond t a b => match e.eval C t with
      | some (.bool true) => .code a (p ++ [0]) n cf e u s K
      | some (.bool false) => .code b (p ++ [1]) n cf e u s K
      | _ => .cout .fail K
    | .block id b => .code b (p ++ [0]) n cf e u s (.block id :: K)
    | .loop b => .cout (.fin .normal e u s) (.loop b (p ++ [0]) n n cf :: K)
    | .scope b => .code b (p ++ [0]) n cf e u s (.scope :: K)
    | .region _ ops draw => bif draw then
        match closA ops.toList 0 .nil, dstA ops.toList 0 .nil with
        | some cls, some dm => .pass n cf p ⟨ops.toList, dm, cls, e⟩ u ops.toList 0 .nil [] ⟨s, .nil, 0, 0⟩ s [] K
        | _, _ => .cout .fail K
      else .ops n cf p ops.toList ops.toList e u s K
    | .rangeFunc f ps a b => match n, e.eval C f, (match cf.round with
        | none => some (s.next, ({ e with defers := { target := .collected s.next, args := #[] } :: e.defers } : E), s.new (.deferred (some [])))
        | some l => match s.heap.get l with
          | some (.loop r) => some (r.defers, e, s)
          | _ => none) with
      | m + 1, some fv, some (d, e', s) => match ofValueA fv [.func (.yield s.next) #[] #[]] with
        | some dd => match invokeA C dd.target dd.args.toList (s.new (.loop { state := .ready, pending := none, fn := cf.fn, tmps := e.tmps, ntm := e.n, params := ps, assign := a, body := b, defers := d })) with
          | .ok (.enter g args) s1 => match C.funcs.get g with
            | some fn => match fn.body with
              | some c => bif Nat.ble args.length fn.ntmps then
                  .code c [] m ⟨g, false, none⟩ { tmps := argsT args 0 .nil, n := fn.ntmps, defers := [] } .run s1 (.body g fn m :: .rng s.next e' u :: K)
                else .cout .fail K
              | none => .cout .fail K
            | none => .cout .fail K
          | _ => .cout .fail K
        | none => .cout .fail K
      | _, _, _ => .cout .fail K
    | c => .cout (codeA C (recOf C n) n cf c e u s) K
  | .ops n cf p all r e u s K => match r with
    | [] => .cout (.fin .normal e u s) K
    | o :: r => stepOps C n cf p all o r e u s K
  | .pass n cf p g u r i V pend q s pts K => match r with
    | [] => .cout (finC C (recOf C n) g u (passA C (recOf C n) g [] i V pend q s pts)) K
    | o :: r => stepPass C n cf p g u o r i V pend q s pts K
  | .cout x K => match K with
    | [] => .fout .fail []
    | .seq b p n cf :: K => match x with
      | .fin .normal e u s => .code b p n cf e u s K
      | x => .cout x K
    | .block id :: K => .cout (inBlockA id x) K
    | .loop b p n q cf :: K => match x with
      | .fin .normal e u s => match q with
        | 0 => .cout .fail K
        | q + 1 => .code b p n cf e u s (.loop b p n q cf :: K)
      | x => .cout x K
    | .scope :: K => .cout (scopeC x) K
    | .ops n cf p all r :: K => match x with
      | .fin .normal e u s => .ops n cf p all r e u s K
      | x => .cout x K
    | .body f fn n :: K => .fout (bodyC C fn n x) K
    | .rbody l :: K => .fout (rbodyC l x) K
    | .rng _ _ _ :: _ => .fout .fail []
    | .put _ _ _ :: _ => .fout .fail []
    | .heavy _ _ _ _ _ _ _ _ _ _ _ _ _ :: _ => .fout .fail []
  | .fout x K => match K with
    | .put dst e u :: K => .cout (putC dst e u x) K
    | .rng l e u :: K => .cout (rngC l e u x) K
    | .heavy n cf p g u r i m V pend M q pts :: K => match x with
      | .returned v _ s2 => match V.get i with
        | none => .pass n cf p g u r (i + 1) (V.set i v) pend ⟨s2, M, Nat.lor q.done (Nat.shiftLeft 1 i), Nat.lor q.clos m⟩ s2 (q :: pts) K
        | some _ => .cout .fail K
      | _ => .cout .fail K
    | K => .fout x K

def isDone : Cfg → Bool
  | .fout _ [] => true
  | _ => false

theorem opsA_cons (C : Cx) (n : Nat) (cf : Cf) (all : List Oper) (o : Oper) (r : List Oper) (e : E) (u : FrameMode) (s : St) :
    opsA C (recOf C n) cf all (o :: r) e u s = thenC (opStep C (recOf C n) cf all o e u s) (opsA C (recOf C n) cf all r) := by
  simp only [opsA, thenC]
  cases opStep C (recOf C n) cf all o e u s with
  | fail => rfl
  | fin x e u s => cases x <;> rfl

theorem den_fail (C : Cx) : ∀ (K : List Fr), denC C K .fail = .fail ∧ denF C K .fail = .fail
  | [] => ⟨rfl, rfl⟩
  | f :: K => by
    have ih := den_fail C K
    cases f <;> simp only [denC, denF, thenC, inBlockA, scopeC, bodyC, putC, heavyC, rngC, rbodyC, ih.1, ih.2, and_self]

/-- The same comes of it, or nothing. -/
def Same2 (C : Cx) (a b : Cfg) : Prop := den' C a = den' C b ∨ den' C a = .fail

theorem callA_body {C : Cx} {f : FuncId} {fn : Func} {c : Code} {args : List Value} {m : Nat} {s' : St} (hfn : C.funcs.get f = some fn) (hb : fn.body = some c) (hl : Nat.ble args.length fn.ntmps = true) :
    callA C (recOf C m) m false f args .run s' = bodyC C fn m (codeA C (recOf C m) m ⟨f, false, none⟩ c { tmps := argsT args 0 .nil, n := fn.ntmps, defers := [] } .run s') := by
  simp only [callA, hfn, hb, hl, cond_true, bodyC]
  cases codeA C (recOf C m) m ⟨f, false, none⟩ c { tmps := argsT args 0 .nil, n := fn.ntmps, defers := [] } .run s' with
  | fail => rfl
  | fin x e u s => cases x <;> rfl

theorem fail2 {C : Cx} {K : List Fr} {b : Cfg} : Same2 C (.cout .fail K) b := .inr (den_fail C K).1

theorem stepOps_den (C : Cx) (n : Nat) (cf : Cf) (p : List Nat) (all : List Oper) (o : Oper) (r : List Oper) (e : E) (u : FrameMode) (s : St) (K : List Fr) :
    Same2 C (stepOps C n cf p all o r e u s K) (.ops n cf p all (o :: r) e u s K) := by
  have e0 : den' C (.ops n cf p all (o :: r) e u s K) = denC C K (thenC (opStep C (recOf C n) cf all o e u s) (opsA C (recOf C n) cf all r)) := by
    simp only [den', opsA_cons]
  unfold stepOps
  split
  · rename_i m f args s' hw hc ho
    have key : opStep C (recOf C (m + 1)) cf all o e u s = putC o.dst e u (callA C (recOf C m) m false f args .run s') := by
      simp only [opStep, hw, hc, ho, recOf, putC]
      cases callA C (recOf C m) m false f args .run s' <;> rfl
    split
    · rename_i fn hfn
      split
      · rename_i c hb
        cases hl : Nat.ble args.length fn.ntmps with
        | true =>
          refine .inl ?_
          rw [e0, key, callA_body hfn hb hl]
          simp only [cond_true, den', denC, denF]
        | false => exact fail2
      · exact fail2
    · exact fail2
  · rename_i m l args s' hw hc ho
    have key : opStep C (recOf C (m + 1)) cf all o e u s = putC o.dst e u (roundA C (recOf C m) m l args s') := by
      simp only [opStep, hw, hc, ho, recOf, putC]
      cases roundA C (recOf C m) m l args s' <;> rfl
    split
    · rename_i r0 hr0
      cases hl : Nat.beq args.length r0.params.size && (C.funcs.get r0.fn).isSome with
      | false => exact fail2
      | true =>
        simp only [cond_true]
        split
        · rename_i e1 u1 s1 ha
          split
          · rename_i r1 hr1
            split
            · rename_i hst
              refine .inl ?_
              rw [e0, key]
              have : roundA C (recOf C m) m l args s' = rbodyC l (codeA C (recOf C m) m ⟨r0.fn, false, some l⟩ r0.body e1 .run { s1 with heap := s1.heap.set l (.loop { r1 with state := .busy }) }) := by
                simp only [roundA, hr0, hl, cond_true, ha, hr1, hst]
                cases codeA C (recOf C m) m ⟨r0.fn, false, some l⟩ r0.body e1 .run { s1 with heap := s1.heap.set l (.loop { r1 with state := .busy }) } with
                | fail => rfl
                | fin x e2 u2 s2 => cases x <;> rfl
              rw [this]
              simp only [den', denC, denF]
            · exact fail2
          · exact fail2
        · exact fail2
    · exact fail2
  · rename_i n _ _ _ _ _
    generalize opStep C (recOf C _) cf all o e u s = y at e0
    cases y with
    | fail => exact fail2
    | fin x e u s => cases x <;> exact .inl e0.symm

theorem stepPass_den (C : Cx) (n : Nat) (cf : Cf) (p : List Nat) (g : Rg) (u : FrameMode) (o : Oper) (r : List Oper) (i : Nat) (V : T Value) (pend : List (Nat × Oper)) (q : Pt) (s : St) (pts : List Pt) (K : List Fr) :
    Same2 C (stepPass C n cf p g u o r i V pend q s pts K) (.pass n cf p g u (o :: r) i V pend q s pts K) := by
  unfold stepPass
  split
  · rename_i m hm hV
    cases hh : heavyB C g.cls q.done i m o r with
    | false =>
      simp only [cond_false]
      have key : passA C (recOf C n) g (o :: r) i V pend q s pts = (match stepV C (recOf C n) g.ops o (g.env i m V q.M o) s with
        | none => passA C (recOf C n) g r (i + 1) V (pend ++ [(i, o)]) q s pts
        | some (v, s1) => bif Nat.beq s1.next s.next then passA C (recOf C n) g r (i + 1) (V.set i v) pend q s pts
          else passA C (recOf C n) g r (i + 1) V (pend ++ [(i, o)]) q s pts) := by
        simp only [passA, hm, hV, hh, cond_false]
        cases stepV C (recOf C n) g.ops o (g.env i m V q.M o) s <;> rfl
      refine .inl ?_
      simp only [den', key]
      cases stepV C (recOf C n) g.ops o (g.env i m V q.M o) s with
      | none => rfl
      | some x =>
        obtain ⟨v, s1⟩ := x
        simp only []
        cases Nat.beq s1.next s.next <;> rfl
    | true =>
      simp only [cond_true]
      cases hsub : subB q.done m with
      | false => simp only [cond_false]; exact fail2
      | true =>
        simp only [cond_true]
        split
        · exact fail2
        · rename_i V1 M s1 pend1 hmer
          cases hk : knownAllA V1 M m g.ops.length with
          | false => simp only [cond_false]; exact fail2
          | true =>
            simp only [cond_true]
            have key : passA C (recOf C n) g (o :: r) i V pend q s pts = (match stepV C (recOf C n) g.ops o (g.env i m V1 M o) s1 with
              | none => match stepP C (recOf C n) g.ops o (g.env i m V1 M o) s1 with
                | none => none
                | some (ch, s2) => match restA C (recOf C n) g i r (i + 1) V1 pend1 M s1 with
                  | some (V, M, s3) => some (V, q :: pts, M, Nat.lor q.done (Nat.shiftLeft 1 i), s3.next, .pan ch s2)
                  | none => none
              | some (v, s2) => match V1.get i with
                | none => passA C (recOf C n) g r (i + 1) (V1.set i v) pend1 ⟨s2, M, Nat.lor q.done (Nat.shiftLeft 1 i), Nat.lor q.clos m⟩ s2 (q :: pts)
                | some _ => none) := by
              simp only [passA, hm, hV, hh, cond_true, hsub, hmer, hk]
              cases stepV C (recOf C n) g.ops o (g.env i m V1 M o) s1 with
              | none => cases stepP C (recOf C n) g.ops o (g.env i m V1 M o) s1 with
                | none => rfl
                | some x => simp only []; cases restA C (recOf C n) g i r (i + 1) V1 pend1 M s1 <;> rfl
              | some x => simp only []; cases V1.get i <;> rfl
            split
            · rename_i k f args s' hw ho
              split
              · rename_i fn hfn
                split
                · rename_i c hb
                  cases hl : Nat.ble args.length fn.ntmps with
                  | false => simp only [cond_false]; exact fail2
                  | true =>
                    simp only [cond_true]
                    have hs : stepV C (recOf C (k + 1)) g.ops o (g.env i m V1 M o) s1 = (match callA C (recOf C k) k false f args .run s' with
                      | .returned v _ s => some (v, s)
                      | _ => none) := by
                      simp only [stepV, hw, ho, recOf]
                      cases callA C (recOf C k) k false f args .run s' <;> rfl
                    simp only [Same2, den', denC, denF, ← callA_body hfn hb hl, key, hs]
                    cases callA C (recOf C k) k false f args .run s' with
                    | returned v u2 s2 =>
                      refine .inl ?_
                      simp only [heavyC]
                      cases V1.get i <;> rfl
                    | panicked ch u2 s2 => exact .inr (den_fail C K).1
                    | fail => exact .inr (den_fail C K).1
                · exact fail2
              · exact fail2
            · rename_i n _ _ _ hmer
              cases hs : stepV C (recOf C n) g.ops o (g.env i m V1 M o) s1 with
              | none =>
                cases hp : stepP C (recOf C n) g.ops o (g.env i m V1 M o) s1 with
                | none => exact fail2
                | some x =>
                  obtain ⟨ch, s2⟩ := x
                  dsimp only
                  cases hr : restA C (recOf C n) g i r (i + 1) V1 pend1 M s1 with
                  | none => exact fail2
                  | some y =>
                    obtain ⟨V2, M2, s3⟩ := y
                    refine .inl ?_
                    simp only [den', key, hs, hp, hr]
              | some x =>
                obtain ⟨v, s2⟩ := x
                dsimp only
                cases hg : V1.get i with
                | none => refine .inl ?_; simp only [den', key, hs, hg]
                | some _ => exact fail2
  · exact fail2

theorem drawnA_fin (C : Cx) (rec : Rec) (ops : List Oper) (e : E) (u : FrameMode) (s : St) {cls dm : T Nat} (h1 : closA ops 0 .nil = some cls) (h2 : dstA ops 0 .nil = some dm) :
    drawnA C rec ops e u s = finC C rec ⟨ops, dm, cls, e⟩ u (passA C rec ⟨ops, dm, cls, e⟩ ops 0 .nil [] ⟨s, .nil, 0, 0⟩ s []) := by
  simp only [drawnA, h1, h2]
  rfl

theorem step_den (C : Cx) (c : Cfg) : Same2 C (stepC C c) c := by
  cases c with
  | code c p n cf e u s K =>
    cases c with
    | seq a b =>
      refine .inl ?_
      simp only [stepC, den', denC, codeA]
      congr 1
    | cond t a b =>
      refine .inl ?_
      show den' C (match e.eval C t with
        | some (.bool true) => .code a (p ++ [0]) n cf e u s K
        | some (.bool false) => .code b (p ++ [1]) n cf e u s K
        | _ => .cout .fail K) = denC C K (match e.eval C t with
        | some (.bool true) => codeA C (recOf C n) n cf a e u s
        | some (.bool false) => codeA C (recOf C n) n cf b e u s
        | _ => .fail)
      generalize e.eval C t = y
      split <;> rfl
    | block id b => exact .inl rfl
    | loop b => exact .inl rfl
    | scope b =>
      refine .inl ?_
      simp only [stepC, den', denC, codeA]
      congr 1
    | region id ops draw =>
      cases draw with
      | false => exact .inl rfl
      | true =>
        simp only [stepC, cond_true]
        split
        · rename_i cls dm h1 h2
          refine .inl ?_
          simp only [den', codeA, cond_true, drawnA_fin C (recOf C n) ops.toList e u s h1 h2]
        · exact fail2
    | rangeFunc f ps a b =>
      simp only [stepC]
      split
      · rename_i m fv d e' s0 hf hd
        split
        · rename_i dd hdd
          split
          · rename_i g args s1 hi
            split
            · rename_i fn hfn
              split
              · rename_i c hb
                cases hl : Nat.ble args.length fn.ntmps with
                | false => exact fail2
                | true =>
                  refine .inl ?_
                  simp only [cond_true, den', denC, denF, ← callA_body hfn hb hl]
                  have : codeA C (recOf C (m + 1)) (m + 1) cf (.rangeFunc f ps a b) e u s = rngC s0.next e' u (callA C (recOf C m) m false g args .run s1) := by
                    cases hcr : cf.round with
                    | none =>
                      rw [hcr] at hd
                      simp only [Option.some.injEq, Prod.mk.injEq] at hd
                      obtain ⟨rfl, rfl, rfl⟩ := hd
                      simp only [codeA, rangeFuncA, hf, hcr, hdd, hi, recOf, rngC]
                      cases callA C (recOf C m) m false g args .run s1 <;> rfl
                    | some l =>
                      rw [hcr] at hd
                      simp only [] at hd
                      cases hb : s.heap.get l with
                      | none => rw [hb] at hd; cases hd
                      | some blk =>
                        rw [hb] at hd
                        cases blk with
                        | loop rr =>
                          simp only [Option.some.injEq, Prod.mk.injEq] at hd
                          obtain ⟨rfl, rfl, rfl⟩ := hd
                          simp only [codeA, rangeFuncA, hf, hcr, hb, hdd, hi, recOf, rngC]
                          cases callA C (recOf C m) m false g args .run s1 <;> rfl
                        | _ => cases hd
                  rw [this]
              · exact fail2
            · exact fail2
          · exact fail2
        · exact fail2
      · exact fail2
    | _ => exact .inl rfl
  | ops n cf p all r e u s K =>
    cases r with
    | nil => exact .inl rfl
    | cons o r => exact stepOps_den C n cf p all o r e u s K
  | pass n cf p g u r i V pend q s pts K =>
    cases r with
    | nil => exact .inl rfl
    | cons o r => exact stepPass_den C n cf p g u o r i V pend q s pts K
  | cout x K =>
    cases K with
    | nil => exact .inl rfl
    | cons f K =>
      cases f with
      | loop b p n q cf =>
        refine .inl ?_
        cases x with
        | fail => rfl
        | fin x e u s =>
          cases x with
          | normal =>
            cases q with
            | zero => rfl
            | succ q =>
              simp only [stepC, den', denC, thenC, iterA]
              congr 1
          | _ => rfl
      | seq b p n cf =>
        refine .inl ?_
        cases x with
        | fail => rfl
        | fin x e u s => cases x <;> rfl
      | ops n cf p all r =>
        refine .inl ?_
        cases x with
        | fail => rfl
        | fin x e u s => cases x <;> rfl
      | _ => exact .inl rfl
  | fout x K =>
    cases K with
    | nil => exact .inl rfl
    | cons f K =>
      cases f with
      | heavy n cf p g u r i m V pend M q pts =>
        cases x with
        | returned v u2 s2 =>
          simp only [stepC]
          cases h : V.get i with
          | none => refine .inl ?_; simp only [den', denF, heavyC, h]
          | some _ => exact fail2
        | panicked ch u2 s2 => exact fail2
        | fail => exact fail2
      | _ => exact .inl rfl

/-- Many steps. -/
def stepN (C : Cx) : Nat → Cfg → Cfg
  | 0, c => c
  | n + 1, c => match c with
    | .pass k cf p g u r i V pend q s pts K => stepN C n (stepC C (.pass k cf p g u r i V pend q s pts K))
    | .code c p k cf e u s K => stepN C n (stepC C (.code c p k cf e u s K))
    | .ops k cf p all r e u s K => stepN C n (stepC C (.ops k cf p all r e u s K))
    | .cout x K => stepN C n (stepC C (.cout x K))
    | .fout x K => stepN C n (stepC C (.fout x K))

theorem stepN_den (C : Cx) : ∀ (n : Nat) (c : Cfg), Same2 C (stepN C n c) c
  | 0, c => .inl rfl
  | n + 1, c => by
    have key : Same2 C (stepN C n (stepC C c)) c := by
      rcases stepN_den C n (stepC C c) with h | h
      · rcases step_den C c with h2 | h2
        · exact .inl (h.trans h2)
        · exact .inr (h.trans h2)
      · exact .inr h
    cases c <;> exact key

end Go.Eng
end
