/- The abstract interpreter: calls and rounds. -/
import Derived.Test.YtcceecleljcfbaaGreatDoorEngCtl6
namespace Go.Eng
set_option linter.unusedVariables false
set_option linter.unusedSimpArgs false

section
variable {C : Cx} {P : Program} {φ : Phi} {D : Nat → Prop} {s : St} {w : World} {e : E} {a : Act}

theorem enter_fat {f : FuncId} {fn : Func} {c : Code} (args : Array Value) (kind : CallKind) (hf : P.funcs[f]? = some fn) (hb : fn.body = some c) :
    Frame.enter P f args kind = fat { fn := f, tmps := #[], todo := [], defers := [], mode := .run, kind := kind } { tmps := args ++ Array.replicate (fn.ntmps - args.size) undef, defers := [] } [.code c] := by
  simp [Frame.enter, fat, hf, hb]

theorem go_leave_end {b : Frame} {cs : List Frame} (h : b.roundOf = none) : step P (lone (fat b a []) cs w) = .next (lone { fat b a [] with mode := .returning } cs w) :=
  step_lone_go (by simp [stepG, stepG.exec, fat, h])
theorem go_leave_ret {b : Frame} {cs : List Frame} {kk : List Item} (h : b.roundOf = none) : step P (lone (fat b a (.code .ret :: kk)) cs w) = .next (lone { fat b a (.code .ret :: kk) with mode := .returning } cs w) :=
  step_lone_go (by simp [stepG, stepG.exec, fat, h])

/-- What came of a call: the frame has gone as far as its own results. -/
def CallOut (C : Cx) (P : Program) (f : FuncId) (dfr : Bool) (φ : Phi) (D : Nat → Prop) (s : St) (w : World) (m : Machine) (cs : List Frame) : FOut → Prop
  | .returned v u' s' => ∃ φ' D' w' fr, Inv C φ' D' s' w' ∧ Ext φ D s.heap w φ' D' s'.heap w' ∧ Ok D' v ∧ okM D' u' ∧
      Steps P m (lone fr (csOf dfr φ' u' cs) w') ∧ fr.fn = f ∧ fr.kind = (if dfr then .deferred else .normal) ∧
      fr.mode = .returning ∧ fr.defers = [] ∧ ∃ fn, P.funcs[f]? = some fn ∧ (results fn fr.tmps).run P w' = .ok (den φ' v) w'
  | .panicked ch u' s' => ∃ φ' D' w' fr, Inv C φ' D' s' w' ∧ Ext φ D s.heap w φ' D' s'.heap w' ∧ okChain D' ch ∧ okM D' u' ∧
      Steps P m (lone fr (csOf dfr φ' u' cs) w') ∧ fr.fn = f ∧ fr.kind = (if dfr then .deferred else .normal) ∧
      fr.mode = .panicking (ch.map (denP φ')) ∧ fr.defers = [] ∧ ∃ fn, P.funcs[f]? = some fn
  | .fail => True

theorem call_out (hC : CxOk C P) {rec : Rec} (hrec : RecOk C P rec) (hdraw : DrawOk C P rec) (n : Nat) (dfr : Bool) (f : FuncId) (args : List Value) (u : FrameMode) (s : St) (φ : Phi) (D : Nat → Prop) (w : World)
    (hI : Inv C φ D s w) (hargs : OkL D args) (hu : okM D u) (cs : List Frame) (hcs : dfr = true → cs ≠ []) :
    CallOut C P f dfr φ D s w (lone (Frame.enter P f (denL φ args).toArray (if dfr then .deferred else .normal)) (csOf dfr φ u cs) w) cs (callA C rec n dfr f args u s) := by
  generalize hout : callA C rec n dfr f args u s = out
  unfold callA at hout
  split at hout
  · subst hout; trivial
  rename_i fn hfn
  have hf := hC.func f fn hfn
  split at hout
  · subst hout; trivial
  rename_i c hc
  cases hle : Nat.ble args.length fn.ntmps with
  | false => rw [hle] at hout; subst hout; trivial
  | true =>
    rw [hle] at hout
    simp only [cond_true] at hout
    have hlen : args.length ≤ fn.ntmps := Nat.le_of_ble_eq_true hle
    rw [enter_fat (denL φ args).toArray (if dfr then .deferred else .normal) hf hc]
    generalize hb : ({ fn := f, tmps := #[], todo := [], defers := [], mode := .run, kind := if dfr then .deferred else .normal } : Frame) = b
    have hbf : b.fn = f := by rw [← hb]
    have hbk : b.kind = if dfr then .deferred else .normal := by rw [← hb]
    have hbr : b.roundOf = none := by rw [← hb]
    have hB : BOk φ D ⟨f, dfr, none⟩ b := ⟨hbf, hbk, hbr, by intro l h; cases h⟩
    have he : ERel φ D { tmps := argsT args 0 .nil, n := fn.ntmps, defers := [] } { tmps := (denL φ args).toArray ++ Array.replicate (fn.ntmps - (denL φ args).toArray.size) undef, defers := [] } :=
      ⟨args_rel hlen hargs, rfl, by intro d h; cases h⟩
    have hbody := code_sound hC hrec hdraw n c ⟨f, dfr, none⟩ φ D s w _ _ u b [] cs hcs hI he hu hB
    generalize codeA C rec n ⟨f, dfr, none⟩ c { tmps := argsT args 0 .nil, n := fn.ntmps, defers := [] } u s = res at hbody hout
    cases res with
    | fail => simp only at hout; subst hout; trivial
    | fin x e1 u1 s1 =>
      obtain ⟨φ1, D1, w1, a1, h1, h2, h3, h4, h5, h6⟩ := hbody
      -- where leaving begins
      have start : ∀ m, (∃ todo, Steps P (lone (fat b { tmps := (denL φ args).toArray ++ Array.replicate (fn.ntmps - (denL φ args).toArray.size) undef, defers := [] } [.code c]) (csOf dfr φ u cs) w)
            (lone { fat b a1 todo with mode := denM φ1 m } (csOf dfr φ1 u1 cs) w1)) → okM D1 m → out = leaveA C rec fn u1 e1 n e1.defers m s1 →
          CallOut C P f dfr φ D s w (lone (fat b { tmps := (denL φ args).toArray ++ Array.replicate (fn.ntmps - (denL φ args).toArray.size) undef, defers := [] } [.code c]) (csOf dfr φ u cs) w) cs out := by
        intro m ⟨todo, hst⟩ hm hleq
        have hl := leave_sound hC hrec (fn := fn) (u0 := u1) (e := e1) (cs := csOf dfr φ1 u1 cs) n e1.defers m φ1 D1 s1 w1 { fat b a1 todo with mode := denM φ1 m } h1 h2.tmps rfl hm
          (by rw [show ({ fat b a1 todo with mode := denM φ1 m } : Frame).defers = a1.defers from rfl, h2.defers]) h2.ok
        rw [← hleq] at hl
        cases out with
        | fail => trivial
        | returned v u' s' =>
          obtain ⟨rfl, φ', D', w', fr', q1, q2, q3, q4, q5, q6, q7, q8, q9⟩ := hl
          have hx := h5.trans q2
          refine ⟨φ', D', w', fr', q1, hx, q3, okM.mono q2.dom h3, ?_, q5.trans hbf, q6.trans hbk, q7, q8, fn, hf, q9⟩
          rw [← csOf_congr (fun i hi => (q2.phi i hi).symm) h3 cs]
          exact hst.trans q4
        | panicked ch u' s' =>
          obtain ⟨rfl, φ', D', w', fr', q1, q2, q3, q4, q5, q6, q7, q8⟩ := hl
          have hx := h5.trans q2
          refine ⟨φ', D', w', fr', q1, hx, q3, okM.mono q2.dom h3, ?_, q5.trans hbf, q6.trans hbk, q7, q8, fn, hf⟩
          rw [← csOf_congr (fun i hi => (q2.phi i hi).symm) h3 cs]
          exact hst.trans q4
      cases x with
      | normal => exact start .returning ⟨[], Steps.trans h6 (.one (go_leave_end hbr))⟩ trivial hout.symm
      | ret =>
        obtain ⟨kk, h6⟩ := h6
        exact start .returning ⟨_, h6.trans (.one (go_leave_ret hbr))⟩ trivial hout.symm
      | panic ch =>
        obtain ⟨todo, h6⟩ := h6
        exact start (.panicking ch) ⟨todo, h6⟩ h4 hout.symm
      | exit id => subst hout; trivial
      | goto l => subst hout; trivial

theorem go_begin {b : Frame} {cs : List Frame} {k : List Item} {l : Nat} {r : Loop} (hl : w.heap[l]? = some (.loop r)) (hs : r.state = .ready) (hb : b.roundOf = some l) :
    step P (lone (fat b a (.beginRound :: k)) cs w) = .next (lone (fat b a k) cs (setB w l (.loop { r with state := .busy }))) := by
  have hrun : (Instr.beginRound l).run P w = .ok () (setB w l (.loop { r with state := .busy })) := by
    simp only [Instr.beginRound, Instr.getLoop, Sem.run_bind, run_getObj hl (by intro _ _ _ h; cases h), Result.andThen_ok, Sem.run_pure, run_setObj hl (by intro _ _ _ h; cases h), hs]
  refine step_lone_go ?_
  simp only [stepG, stepG.exec, fat, hb, Option.elim_some, stepG.apply, Sem.runT_eq, if_true, Sem.run_bind, hrun, Result.andThen_ok, Sem.run_pure, GStep.bare_after]
  simp [Frame.finish]

theorem run_endRound {l : Nat} {r : Loop} (hl : w.heap[l]? = some (.loop r)) (jump : Option Code) :
    (Instr.endRound l jump).run P w = .ok (.bool jump.isNone) (setB w l (.loop { r with state := if jump.isNone then .ready else .done, pending := jump })) := by
  simp only [Instr.endRound, Instr.getLoop, Sem.run_bind, run_getObj hl (by intro _ _ _ h; cases h), Result.andThen_ok, Sem.run_pure, run_setObj hl (by intro _ _ _ h; cases h)]

def leavesWith : List Item → Option Code → Prop
  | [], j => j = none
  | .code .ret :: _, j => j = some .ret
  | .code (.exit id) :: k, j => exitTo id k = none ∧ j = some (.exit id)
  | .code (.goto l) :: k, j => gotoIn l k = none ∧ j = some (.goto l)
  | _, _ => False

theorem go_round_end {b c : Frame} {cs : List Frame} {k : List Item} {l : Nat} {r : Loop} {j : Option Code} (hl : w.heap[l]? = some (.loop r)) (hb : b.roundOf = some l) (hk : b.kind = .normal) (hj : leavesWith k j) :
    step P (lone (fat b a k) (c :: cs) w) = .next (lone (c.finish (.bool j.isNone)) cs (setB w l (.loop { r with state := if j.isNone then .ready else .done, pending := j }))) := by
  refine step_lone_go ?_
  unfold leavesWith at hj
  split at hj
  · subst hj
    simp only [stepG, stepG.exec, fat, hb, Sem.runT_eq, run_endRound hl, GStep.bare_after]
    simp [doReturn, hk]
  · subst hj
    simp only [stepG, stepG.exec, fat, hb, Sem.runT_eq, run_endRound hl, GStep.bare_after]
    simp [doReturn, hk]
  · obtain ⟨h, rfl⟩ := hj
    simp only [stepG, stepG.exec, fat, hb, h, Option.elim_none, Sem.runT_eq, run_endRound hl, GStep.bare_after]
    simp [doReturn, hk]
  · obtain ⟨h, rfl⟩ := hj
    simp only [stepG, stepG.exec, fat, hb, h, Option.elim_none, Sem.runT_eq, run_endRound hl, GStep.bare_after]
    simp [doReturn, hk]
  · exact hj.elim

/-- What came of a round. -/
def RoundOut (C : Cx) (P : Program) (φ : Phi) (D : Nat → Prop) (s : St) (w : World) (m : Machine) (c : Frame) (cs : List Frame) : FOut → Prop
  | .returned v _ s' => ∃ φ' D' w', Inv C φ' D' s' w' ∧ Ext φ D s.heap w φ' D' s'.heap w' ∧ Ok D' v ∧ Steps P m (lone (c.finish (den φ' v)) cs w')
  | .panicked ch _ s' => ∃ φ' D' w', Inv C φ' D' s' w' ∧ Ext φ D s.heap w φ' D' s'.heap w' ∧ okChain D' ch ∧ Steps P m (lone (c.raise (ch.map (denP φ'))) cs w')
  | .fail => True

theorem round_out (hC : CxOk C P) {rec : Rec} (hrec : RecOk C P rec) (hdraw : DrawOk C P rec) (n : Nat) (l : Nat) (args : List Value) (s : St) (φ : Phi) (D : Nat → Prop) (w : World) (l' : Nat) (f : FuncId) (tm : Array Value) (as bd : Code)
    (hI : Inv C φ D s w) (hnr : NRel φ D s.heap (.round l args) (.round l' f tm as bd)) (c : Frame) (cs : List Frame) :
    RoundOut C P φ D s w (lone (Frame.round l' f tm as bd .normal) (c :: cs) w) c cs (roundA C rec n l args s) := by
  obtain ⟨rfl, hDl, r, hl, rfl, rfl, rfl, hpar⟩ := hnr
  generalize hout : roundA C rec n l args s = out
  unfold roundA at hout
  rw [hl] at hout
  simp only at hout
  cases hlen : (Nat.beq args.length r.params.size && (C.funcs.get r.fn).isSome) with
  | false => rw [hlen] at hout; subst hout; trivial
  | true =>
    rw [hlen] at hout
    simp only [cond_true] at hout
    rw [Bool.and_eq_true] at hlen
    have hlen1 := Nat.eq_of_beq_eq_true hlen.1
    obtain ⟨fn, hfn⟩ := Option.isSome_iff_exists.1 hlen.2
    have hf := hC.func _ _ hfn
    generalize hb : ({ fn := r.fn, tmps := #[], todo := [], defers := [], mode := .run, kind := .normal, roundOf := some (φ l).block } : Frame) = b
    have hbf : b.fn = r.fn := by rw [← hb]
    have hbk : b.kind = .normal := by rw [← hb]
    have hbr : b.roundOf = some (φ l).block := by rw [← hb]
    have hfr : Frame.round (φ l).block r.fn tm r.assign r.body .normal = fat b { tmps := tm, defers := [] } [.code r.assign, .beginRound, .code r.body] := by
      rw [← hb]; rfl
    rw [hfr]
    have hB : BOk φ D ⟨r.fn, false, some l⟩ b := ⟨hbf, hbk, hbr, by intro l' h; cases h; exact hDl⟩
    have he : ERel φ D { tmps := paramsT r.params.toList args r.tmps, n := r.ntm, defers := [] } { tmps := tm, defers := [] } := ⟨hpar hlen1, rfl, by intro d h; cases h⟩
    have hcode := code_sound hC hrec hdraw n r.assign ⟨r.fn, false, some l⟩ φ D s w _ _ .run b [.beginRound, .code r.body] (c :: cs) (by intro h; cases h) hI he trivial hB
    generalize codeA C rec n ⟨r.fn, false, some l⟩ r.assign { tmps := paramsT r.params.toList args r.tmps, n := r.ntm, defers := [] } .run s = res at hcode hout
    split at hout
    case h_2 => subst hout; trivial
    rename_i e1 u1 s1
    obtain ⟨φ1, D1, w1, a1, h1, h2, h3, h4, h5, h6⟩ := hcode
    split at hout
    case h_2 => subst hout; trivial
    rename_i r1 hl1
    split at hout
    case h_2 => subst hout; trivial
    rename_i hready
    obtain ⟨hDr, tm1, htm1, hobj1⟩ := h1.1.blk l _ hl1
    have hp1 : φ1 l = φ l := h5.phi l hDl
    have hset1 := h1.1.setObj (o := .loop { state := .busy, pending := r1.pending, fn := r1.fn, tmps := tm1, params := r1.params, assign := r1.assign, body := r1.body, defers := (φ1 r1.defers).block }) hl1 rfl rfl rfl
      (b' := .loop { r1 with state := .busy }) ⟨hDr, tm1, htm1, setB_same (heap_lt hobj1)⟩
    have hstep1 := go_begin (P := P) (a := a1) (b := b) (cs := c :: cs) (k := [.code r.body]) hobj1 hready (by rw [hbr, hp1])
    have hB1 := hB.mono (h5.trans hset1.2).dom (h5.trans hset1.2).phi
    have hcode2 := code_sound hC hrec hdraw n r.body ⟨r.fn, false, some l⟩ φ1 D1 { s1 with heap := s1.heap.set l (.loop { r1 with state := .busy }) } _ e1 a1 .run b [] (c :: cs) (by intro h; cases h)
      ⟨hset1.1, h1.2⟩ h2 trivial hB1
    generalize codeA C rec n ⟨r.fn, false, some l⟩ r.body e1 .run { s1 with heap := s1.heap.set l (.loop { r1 with state := .busy }) } = res2 at hcode2 hout
    have hsteps1 : Steps P (lone (fat b { tmps := tm, defers := [] } [.code r.assign, .beginRound, .code r.body]) (c :: cs) w) _ := Steps.trans h6 (.one hstep1)
    cases res2 with
    | fail => simp only at hout; subst hout; trivial
    | fin x e2 u2 s2 =>
      obtain ⟨φ2, D2, w2, a2, g1, g2, g3, g4, g5, g6⟩ := hcode2
      have hx2 := (h5.trans hset1.2).trans g5
      have hp2 : φ2 l = φ l := hx2.phi l hDl
      by_cases hpx : ∃ ch, x = .panic ch
      · obtain ⟨ch, rfl⟩ := hpx
        simp only at hout
        split at hout
        case h_2 => subst hout; trivial
        rename_i hnd
        subst hout
        obtain ⟨todo, g6⟩ := g6
        refine ⟨φ2, D2, w2, g1, hx2, g4, hsteps1.trans (g6.trans (.one ?_))⟩
        refine step_leave_panicked ⟨rfl, ?_, fn, by rw [show ({ fat b a2 todo with mode := .panicking (ch.map (denP φ2)) } : Frame).fn = b.fn from rfl, hbf]; exact hf⟩
        show a2.defers = []
        rw [g2.defers, hnd]; rfl
      · -- the round's own end
        have fin : ∀ (r2 : LoopA) (j : Option Code) (k : List Item), s2.heap.get l = some (.loop r2) → leavesWith k j →
            Steps P (lone (fat b a1 [.code r.body]) (c :: cs) (setB w1 (φ1 l).block (.loop { state := .busy, pending := r1.pending, fn := r1.fn, tmps := tm1, params := r1.params, assign := r1.assign, body := r1.body, defers := (φ1 r1.defers).block }))) (lone (fat b a2 k) (c :: cs) w2) →
            ∃ φ' D' w', Inv C φ' D' { s2 with heap := s2.heap.set l (.loop { r2 with state := if j.isNone then .ready else .done, pending := j }) } w' ∧
              Ext φ D s.heap w φ' D' (s2.heap.set l (.loop { r2 with state := if j.isNone then .ready else .done, pending := j })) w' ∧
              Steps P (lone (fat b { tmps := tm, defers := [] } [.code r.assign, .beginRound, .code r.body]) (c :: cs) w) (lone (c.finish (.bool j.isNone)) cs w') := by
          intro r2 j k hl2 hj hst
          obtain ⟨hDr2, tm2, htm2, hobj2⟩ := g1.1.blk l _ hl2
          have hset2 := g1.1.setObj (o := .loop { state := if j.isNone then .ready else .done, pending := j, fn := r2.fn, tmps := tm2, params := r2.params, assign := r2.assign, body := r2.body, defers := (φ2 r2.defers).block }) hl2 rfl rfl rfl
            (b' := .loop { r2 with state := if j.isNone then .ready else .done, pending := j }) ⟨hDr2, tm2, htm2, setB_same (heap_lt hobj2)⟩
          exact ⟨φ2, D2, _, ⟨hset2.1, g1.2⟩, hx2.trans hset2.2, hsteps1.trans (hst.trans (.one (go_round_end hobj2 (by rw [hbr, hp2]) hbk hj)))⟩
        cases x with
        | panic ch => exact absurd ⟨ch, rfl⟩ hpx
        | normal =>
          simp only at hout
          split at hout
          case h_2 => subst hout; trivial
          rename_i r2 hl2
          subst hout
          obtain ⟨φ', D', w', q1, q2, q3⟩ := fin r2 none [] hl2 rfl g6
          exact ⟨φ', D', w', q1, q2, trivial, q3⟩
        | exit id =>
          simp only [codeOf] at hout
          split at hout
          case h_2 => subst hout; trivial
          rename_i r2 hl2
          subst hout
          obtain ⟨kk, hk, g6⟩ := g6
          obtain ⟨φ', D', w', q1, q2, q3⟩ := fin r2 (some (.exit id)) (.code (.exit id) :: kk) hl2 ⟨hk, rfl⟩ g6
          exact ⟨φ', D', w', q1, q2, trivial, q3⟩
        | goto lb =>
          simp only [codeOf] at hout
          split at hout
          case h_2 => subst hout; trivial
          rename_i r2 hl2
          subst hout
          obtain ⟨kk, hk, g6⟩ := g6
          obtain ⟨φ', D', w', q1, q2, q3⟩ := fin r2 (some (.goto lb)) (.code (.goto lb) :: kk) hl2 ⟨hk, rfl⟩ g6
          exact ⟨φ', D', w', q1, q2, trivial, q3⟩
        | ret =>
          simp only [codeOf] at hout
          split at hout
          case h_2 => subst hout; trivial
          rename_i r2 hl2
          subst hout
          obtain ⟨kk, g6⟩ := g6
          obtain ⟨φ', D', w', q1, q2, q3⟩ := fin r2 (some .ret) (.code .ret :: kk) hl2 rfl g6
          exact ⟨φ', D', w', q1, q2, trivial, q3⟩

theorem rec_step (hC : CxOk C P) {rec : Rec} (hrec : RecOk C P rec) (hdraw : DrawOk C P rec) (n : Nat) : RecOk C P { call := callA C rec n, round := roundA C rec n } where
  call := by
    intro f args s φ D w hI hargs
    have h := fun cs => call_out hC hrec hdraw n false f args .run s φ D w hI hargs trivial cs (by intro h; cases h)
    simp only
    generalize callA C rec n false f args .run s = out at h ⊢
    cases out with
    | fail => trivial
    | returned v u' s' =>
      intro cs
      obtain ⟨φ', D', w', fr, q1, q2, q3, q4, q5, q6, q7, q8, q9, q10⟩ := h cs
      exact ⟨φ', D', w', fr, q1, q2, q3, q5, q6, q8, q9, q7, by rw [q6]; exact q10⟩
    | panicked ch u' s' =>
      intro cs
      obtain ⟨φ', D', w', fr, q1, q2, q3, q4, q5, q6, q7, q8, q9, q10⟩ := h cs
      exact ⟨φ', D', w', fr, q1, q2, q3, q5, q6, q8, q9, by rw [q6]; exact q10⟩
  callD := by
    intro f args u s φ D w hI hargs hu
    have h := fun c cs => call_out hC hrec hdraw n true f args u s φ D w hI hargs hu (c :: cs) (by intro _ h; cases h)
    simp only
    generalize callA C rec n true f args u s = out at h ⊢
    cases out with
    | fail => trivial
    | returned v u' s' =>
      intro c cs hc
      obtain ⟨φ', D', w', fr, q1, q2, q3, q4, q5, q6, q7, q8, q9, q10⟩ := h c cs
      have : csOf true φ u (c :: cs) = c :: cs := by simp only [csOf, ← hc]
      rw [this] at q5
      exact ⟨φ', D', w', fr, q1, q2, q3, q4, q5, q7, q8, q9, by rw [q6]; exact q10⟩
    | panicked ch u' s' =>
      intro c cs hc
      obtain ⟨φ', D', w', fr, q1, q2, q3, q4, q5, q6, q7, q8, q9, q10⟩ := h c cs
      have : csOf true φ u (c :: cs) = c :: cs := by simp only [csOf, ← hc]
      rw [this] at q5
      exact ⟨φ', D', w', fr, q1, q2, q3, q4, q5, q7, q8, q9, by rw [q6]; exact q10⟩
  round := by
    intro l args s φ D w l' f tm as bd hI hnr
    have h := fun c cs => round_out hC hrec hdraw n l args s φ D w l' f tm as bd hI hnr c cs
    simp only
    generalize roundA C rec n l args s = out at h ⊢
    cases out with
    | fail => trivial
    | returned v u' s' => exact h
    | panicked ch u' s' => exact h

theorem rec_sound (hC : CxOk C P) (hdraw : ∀ rec, RecOk C P rec → DrawOk C P rec) : ∀ n, RecOk C P (recOf C n)
  | 0 => ⟨fun _ _ _ _ _ _ _ _ => trivial, fun _ _ _ _ _ _ _ _ _ _ => trivial, fun _ _ _ _ _ _ _ _ _ _ _ _ _ => trivial⟩
  | n + 1 => rec_step hC (rec_sound hC hdraw n) (hdraw _ (rec_sound hC hdraw n)) n

end
end Go.Eng
