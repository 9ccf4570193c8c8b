/- The abstract interpreter: a function is entered and left. -/
import Derived.Test.YtcceecleljcfbaaGreatDoorEngCtl5
namespace Go.Eng
set_option linter.unusedVariables false
set_option linter.unusedSimpArgs false

section
variable {C : Cx} {P : Program} {φ : Phi} {D : Nat → Prop} {s : St} {w : World} {e : E} {a : Act}

theorem argsT_get : ∀ (vs : List Value) (i : Nat) (t : T Value) (j : Nat), (argsT vs i t).get j = if i ≤ j ∧ j < i + vs.length then vs[j - i]? else t.get j
  | [], i, t, j => by simp only [argsT, List.length_nil]; rw [if_neg (by omega)]
  | v :: r, i, t, j => by
    simp only [argsT, argsT_get r, T.get_set, List.length_cons]
    by_cases h1 : i + 1 ≤ j ∧ j < i + 1 + r.length
    · rw [if_pos h1, if_pos (by omega), show j - i = (j - (i + 1)) + 1 from by omega]; simp
    · rw [if_neg h1]
      by_cases h2 : j = i
      · subst h2; rw [if_pos rfl, if_pos (by omega)]; simp
      · rw [if_neg h2, if_neg (by omega)]

theorem args_rel {args : List Value} {n : Nat} (hn : args.length ≤ n) (hok : OkL D args) :
    TRel φ D (argsT args 0 .nil) n ((denL φ args).toArray ++ Array.replicate (n - (denL φ args).toArray.size) undef) := by
  refine ⟨by simp [denL_map]; omega, ?_⟩
  intro i v hi
  rw [argsT_get] at hi
  split at hi
  · rename_i h
    simp only [Nat.sub_zero] at hi
    refine ⟨(OkL_iff D args).1 hok v (List.mem_of_getElem? hi), ?_⟩
    rw [Array.getElem?_append_left (by simp [denL_map]; omega)]
    simp only [List.getElem?_toArray, getElem?_denL, hi]; rfl
  · rw [T.get_nil] at hi; cases hi

def resV (tm : Array Value) : ResultVar → Sem Value
  | .tmp t => pure (tm.getD t undef)
  | .cell a t => do loadVar t (← asAddr (tm.getD a undef))

theorem results_eq (fn : Func) (tm : Array Value) : results fn tm = (do let vs ← fn.results.mapM (resV tm); pure (if h : vs.size = 1 then vs[0] else .tuple vs)) := by
  unfold results
  congr 2

theorem results_sound (hC : CxOk C P) (hr : Rel C φ D s.heap w) {tm : Array Value} (ht : TRel φ D e.tmps e.n tm) : ∀ {l : List ResultVar} {vs : List Value}, resultsA C e s l = some vs →
    (l.mapM (resV tm)).run P w = .ok (denL φ vs) w ∧ OkL D vs
  | [], vs, h => by simp only [resultsA, Option.some.injEq] at h; subst h; exact ⟨by simp [denL], trivial⟩
  | .tmp t :: r, vs, h => by
    simp only [resultsA] at h
    split at h
    · rename_i v hv
      simp only [Option.map_eq_some_iff] at h
      obtain ⟨l, hl, rfl⟩ := h
      obtain ⟨h1, h2⟩ := results_sound hC hr ht hl
      have hv' := ht.2 t v hv
      refine ⟨?_, by simp only [OkL]; exact ⟨hv'.1, h2⟩⟩
      have : tm.getD t undef = den φ v := by rw [Array.getD_eq_getD_getElem?, hv'.2]; rfl
      rw [List.mapM_cons]
      simp only [resV, this, Sem.run_bind, Sem.run_pure, Result.andThen_ok, h1, denL]
    · cases h
  | .cell x t :: r, vs, h => by
    simp only [resultsA] at h
    split at h
    · rename_i p hp
      split at h
      · rename_i v hv
        simp only [Option.map_eq_some_iff] at h
        obtain ⟨l, hl, rfl⟩ := h
        obtain ⟨h1, h2⟩ := results_sound hC hr ht hl
        have hp' := ht.2 x p hp
        obtain ⟨id, off, rfl⟩ := loadA_ptr hv
        have hlv := loadVar_sound (P := P) hC hr hv
        refine ⟨?_, by simp only [OkL]; exact ⟨hlv.2, h2⟩⟩
        have : tm.getD x undef = .pointer (some ⟨(φ id).block, (φ id).off + off, none⟩) := by rw [Array.getD_eq_getD_getElem?, hp'.2]; simp [den]
        rw [List.mapM_cons]
        simp only [resV, this, asAddr, Sem.run_bind, Sem.run_pure, Result.andThen_ok, hlv.1, h1, denL]
      · cases h
    · cases h

theorem tuple_den (φ : Phi) (vs : List Value) : den φ (tupleOf vs) = if h : (denL φ vs).toArray.size = 1 then (denL φ vs).toArray[0] else .tuple (denL φ vs).toArray := by
  match vs with
  | [] => simp [tupleOf, den, denA, denL]
  | [v] => simp [tupleOf, denL]
  | v :: u :: r => simp [tupleOf, den, denA, denL]

theorem tuple_ok {vs : List Value} (h : OkL D vs) : Ok D (tupleOf vs) := by
  match vs, h with
  | [], _ => simp [tupleOf, Ok, OkA, OkL]
  | [v], h => simp only [OkL] at h; exact h.1
  | v :: u :: r, h => simp only [tupleOf, Ok, OkA]; exact h

theorem results_run (hC : CxOk C P) (hr : Rel C φ D s.heap w) {fn : Func} {tm : Array Value} (ht : TRel φ D e.tmps e.n tm) {vs : List Value} (h : resultsA C e s fn.results.toList = some vs) :
    (results fn tm).run P w = .ok (den φ (tupleOf vs)) w ∧ Ok D (tupleOf vs) := by
  obtain ⟨h1, h2⟩ := results_sound (P := P) hC hr ht h
  refine ⟨?_, tuple_ok h2⟩
  rw [tuple_den, results_eq, Array.mapM_eq_mapM_toList]
  simp only [Sem.run_bind, Sem.run_map, h1, Result.andThen_ok, Sem.run_pure]

theorem settle_den (φ : Phi) (m : FrameMode) : denM φ (settleA m) = settle (denM φ m) := by
  have hdrop : ∀ l : List PanicEntry, (l.map (denP φ)).dropWhile (fun p => !p.goexit) = (l.dropWhile (fun p => !p.goexit)).map (denP φ) := by
    intro l
    induction l with
    | nil => rfl
    | cons p r ih =>
      simp only [List.map_cons, List.dropWhile_cons, denP]
      cases hg : p.goexit <;> simp [hg, ih, denP]
  cases m with
  | run => rfl
  | returning => rfl
  | panicking ch =>
    cases ch with
    | nil => rfl
    | cons p r =>
      obtain ⟨v, rc, ge⟩ := p
      cases rc with
      | false => rfl
      | true =>
        simp only [settleA, denM, List.map_cons, denP, settle, hdrop]
        cases h : r.dropWhile (fun p => !p.goexit) with
        | nil => simp [denM]
        | cons q t => simp [denM]

theorem settle_ok {m : FrameMode} (h : okM D m) : okM D (settleA m) := by
  cases m with
  | run => trivial
  | returning => trivial
  | panicking ch =>
    cases ch with
    | nil => exact h
    | cons p r =>
      obtain ⟨v, rc, ge⟩ := p
      cases rc with
      | false => exact h
      | true =>
        simp only [settleA]
        split
        · trivial
        · rename_i hq
          intro p hp
          have : p ∈ r := by
            have := List.dropWhile_sublist (fun p : PanicEntry => !p.goexit) (l := r)
            exact this.subset hp
          exact h p (List.mem_cons_of_mem _ this)

theorem raised_den (φ : Phi) (m : FrameMode) (ch : List PanicEntry) : denM φ (raisedA m ch) = raised (denM φ m) (ch.map (denP φ)) := by
  cases m <;> simp [raisedA, denM, raised]
theorem raised_ok {m : FrameMode} {ch : List PanicEntry} (h : okM D m) (hc : okChain D ch) : okM D (raisedA m ch) := by
  cases m with
  | panicking old =>
    intro p hp
    rcases List.mem_append.1 hp with hp | hp
    · exact hc p hp
    · exact h p hp
  | _ => exact hc

theorem go_collected {fr : Frame} {cs : List Frame} {r : Nat} {args : Array Value} {ds calls : List Deferred} {w' : World} (hm : fr.mode ≠ .run) (hd : fr.defers = { target := .collected r, args } :: ds)
    (h : (Instr.takeDeferred r).run P w = .ok calls w') : step P (lone fr cs w) = .next (lone { fr with defers := calls ++ ds } cs w') := by
  refine step_lone_go ?_
  cases hmode : fr.mode with
  | run => exact absurd hmode hm
  | returning => simp only [stepG, hmode, unwind, hd, Sem.runT_eq, h, GStep.bare_after]; simp
  | panicking chain => simp only [stepG, hmode, unwind, hd, Sem.runT_eq, h, GStep.bare_after]; simp

theorem go_deferred {fr : Frame} {cs : List Frame} {d : Deferred} {ds : List Deferred} {fv : Fn} {cap : Array Value} {f : FuncId} {args : Array Value} {w' : World} (hm : fr.mode ≠ .run) (hd : fr.defers = d :: ds) (ht : d.target = .fn fv cap)
    (hi : (invoke d.target d.args).run P w = .ok (.enter f args) w') :
    step P (lone fr cs w) = .next (lone (Frame.enter P f args .deferred) ({ fr with defers := ds } :: cs) w') := by
  obtain ⟨t, ar⟩ := d
  simp only at ht hi
  subst ht
  refine step_lone_go ?_
  cases hmode : fr.mode with
  | run => exact absurd hmode hm
  | returning => simp [stepG, unwind, callDeferred, hmode, hd, hi]
  | panicking chain => simp [stepG, unwind, callDeferred, hmode, hd, hi]

/-- What came of leaving. -/
def LOut (C : Cx) (P : Program) (fn : Func) (u0 : FrameMode) (φ : Phi) (D : Nat → Prop) (s : St) (w : World) (fr : Frame) (cs : List Frame) : FOut → Prop
  | .returned v u s' => u = u0 ∧ ∃ φ' D' w' fr', Inv C φ' D' s' w' ∧ Ext φ D s.heap w φ' D' s'.heap w' ∧ Ok D' v ∧ Steps P (lone fr cs w) (lone fr' cs w') ∧ fr'.fn = fr.fn ∧ fr'.kind = fr.kind ∧
      fr'.mode = .returning ∧ fr'.defers = [] ∧ (results fn fr'.tmps).run P w' = .ok (den φ' v) w'
  | .panicked ch u s' => u = u0 ∧ ∃ φ' D' w' fr', Inv C φ' D' s' w' ∧ Ext φ D s.heap w φ' D' s'.heap w' ∧ okChain D' ch ∧ Steps P (lone fr cs w) (lone fr' cs w') ∧ fr'.fn = fr.fn ∧ fr'.kind = fr.kind ∧
      fr'.mode = .panicking (ch.map (denP φ')) ∧ fr'.defers = []
  | .fail => True

theorem leave_sound (hC : CxOk C P) {rec : Rec} (hrec : RecOk C P rec) {fn : Func} {u0 : FrameMode} {e : E} {cs : List Frame} :
    ∀ (n : Nat) (ds : List Deferred) (m : FrameMode) (φ : Phi) (D : Nat → Prop) (s : St) (w : World) (fr : Frame), Inv C φ D s w → TRel φ D e.tmps e.n fr.tmps → fr.mode = denM φ m → okM D m →
      fr.defers = ds.map (denD φ) → (∀ d ∈ ds, OkD D d) → LOut C P fn u0 φ D s w fr cs (leaveA C rec fn u0 e n ds m s)
  | 0, ds, m, φ, D, s, w, fr, _, _, _, _, _, _ => trivial
  | n + 1, [], m, φ, D, s, w, fr, hI, ht, hm, hok, hd, hdok => by
    simp only [leaveA]
    cases m with
    | run => trivial
    | returning =>
      simp only
      cases hres : resultsA C e s fn.results.toList with
      | none => trivial
      | some vs =>
        obtain ⟨h1, h2⟩ := results_run (P := P) hC hI.1 ht hres
        exact ⟨rfl, φ, D, w, fr, hI, Ext.refl .., h2, .refl .., rfl, rfl, hm, by simpa using hd, h1⟩
    | panicking ch => exact ⟨rfl, φ, D, w, fr, hI, Ext.refl .., hok, .refl .., rfl, rfl, hm, by simpa using hd⟩
  | n + 1, d :: ds, m, φ, D, s, w, fr, hI, ht, hm, hok, hd, hdok => by
    simp only [leaveA]
    cases hnr : notRun m with
    | false => trivial
    | true =>
      simp only [cond_true]
      have hmr : fr.mode ≠ .run := by rw [hm]; cases m <;> simp [notRun, denM] at hnr ⊢
      have hd1 := hdok d (List.mem_cons_self ..)
      have hds : ∀ d' ∈ ds, OkD D d' := fun d' h => hdok d' (List.mem_cons_of_mem _ h)
      obtain ⟨target, args⟩ := d
      cases target with
      | collected r =>
        simp only
        split
        case h_2 => trivial
        rename_i calls hr
        obtain ⟨hcok, hobj⟩ := hI.1.blk r _ hr
        have hcok' := hcok calls rfl
        have hset := hI.1.setObj (o := .deferred none) hr rfl rfl rfl (b' := .deferred none) ⟨fun l hl => (by cases hl), setB_same (heap_lt hobj)⟩
        have htake : (Instr.takeDeferred (φ r).block).run P w = .ok (calls.map (denD φ)) (setB w (φ r).block (.deferred none)) := by
          simp only [Instr.takeDeferred, Sem.run_bind, run_getObj hobj (by intro _ _ _ h; cases h), Result.andThen_ok, Option.map_some, run_setObj hobj (by intro _ _ _ h; cases h), Sem.run_pure]
        have hstep := go_collected (P := P) (cs := cs) (ds := ds.map (denD φ)) (args := denA φ args) hmr (by rw [hd]; rfl) htake
        have ih := leave_sound hC hrec (fn := fn) (u0 := u0) (e := e) (cs := cs) n (calls ++ ds) m φ D { s with heap := s.heap.set r (.deferred none) } _ { fr with defers := calls.map (denD φ) ++ ds.map (denD φ) } ⟨hset.1, hI.2⟩ ht hm hok (by simp)
          (fun d' h => by rcases List.mem_append.1 h with h | h; exact hcok' d' h; exact hds d' h)
        revert ih
        generalize leaveA C rec fn u0 e n (calls ++ ds) m { s with heap := s.heap.set r (.deferred none) } = out
        intro ih
        cases out with
        | fail => trivial
        | returned v u s' =>
          obtain ⟨h0, φ', D', w', fr', g1, g2, g3, g4, g5⟩ := ih
          exact ⟨h0, φ', D', w', fr', g1, hset.2.trans g2, g3, .head hstep g4, g5⟩
        | panicked ch u s' =>
          obtain ⟨h0, φ', D', w', fr', g1, g2, g3, g4, g5⟩ := ih
          exact ⟨h0, φ', D', w', fr', g1, hset.2.trans g2, g3, .head hstep g4, g5⟩
      | fn fv cap =>
        simp only
        have hn : ¬ D s.next := fun h => Nat.lt_irrefl _ (hI.2 _ h)
        have hinv := invoke_sound (P := P) hC hI.1 hn hd1
        simp only at hinv
        generalize invokeA C (.fn fv cap) args.toList s = res at hinv
        split
        case h_2 => trivial
        rename_i f args' s1
        obtain ⟨φ1, D1, w1, hI1, hx1, nx', hrun, hnr'⟩ := After.inv hinv hI.2
        cases nx' with
        | enter f' args'' =>
          obtain ⟨rfl, hargs, rfl⟩ := hnr'
          have hstep := go_deferred (P := P) (cs := cs) (ds := ds.map (denD φ)) hmr (by rw [hd]; rfl) rfl hrun
          have hcall := hrec.callD f' args' m s1 φ1 D1 w1 hI1 hargs (okM.mono hx1.dom hok)
          generalize rec.call true f' args' m s1 = out' at hcall
          have hmode : ({ fr with defers := ds.map (denD φ) } : Frame).mode = denM φ1 m := by rw [← denM_congr (fun i hi => (hx1.phi i hi).symm) m hok]; exact hm
          cases out' with
          | fail => trivial
          | returned v u' s2 =>
            obtain ⟨φ2, D2, w2, fr2, q1, q2, q3, q4, q5, q6, q7⟩ := hcall _ cs hmode
            have hx2 := hx1.trans q2
            have hgo := step_going_returned (c := { { fr with defers := ds.map (denD φ) } with mode := denM φ2 u' }) (cs := cs) q6 q7
            have ih := leave_sound hC hrec (fn := fn) (u0 := u0) (e := e) (cs := cs) n ds (settleA u') φ2 D2 s2 w2 { { { fr with defers := ds.map (denD φ) } with mode := denM φ2 u' } with mode := settle (denM φ2 u') } q1 (ht.mono hx2.dom hx2.phi) (settle_den φ2 u').symm (settle_ok q4)
              (List.map_congr_left fun d' h => (denD_congr (fun i hi => (hx2.phi i hi).symm) d' (hds d' h))) (fun d' h => OkD.mono hx2.dom d' (hds d' h))
            simp only
            revert ih
            generalize leaveA C rec fn u0 e n ds (settleA u') s2 = out
            intro ih
            have hsteps := Steps.head hstep (q5.trans (.one hgo))
            cases out with
            | fail => trivial
            | returned v u s' =>
              obtain ⟨h0, φ', D', w', fr', g1, g2, g3, g4, g5⟩ := ih
              exact ⟨h0, φ', D', w', fr', g1, hx2.trans g2, g3, hsteps.trans g4, g5⟩
            | panicked ch u s' =>
              obtain ⟨h0, φ', D', w', fr', g1, g2, g3, g4, g5⟩ := ih
              exact ⟨h0, φ', D', w', fr', g1, hx2.trans g2, g3, hsteps.trans g4, g5⟩
          | panicked ch u' s2 =>
            obtain ⟨φ2, D2, w2, fr2, q1, q2, q3, q4, q5, q6, q7⟩ := hcall _ cs hmode
            have hx2 := hx1.trans q2
            have hgo := step_going_panicked (c := { { fr with defers := ds.map (denD φ) } with mode := denM φ2 u' }) (cs := cs) q7
            have ih := leave_sound hC hrec (fn := fn) (u0 := u0) (e := e) (cs := cs) n ds (raisedA u' ch) φ2 D2 s2 w2 { { { fr with defers := ds.map (denD φ) } with mode := denM φ2 u' } with mode := raised (denM φ2 u') (ch.map (denP φ2)) } q1 (ht.mono hx2.dom hx2.phi) (raised_den φ2 u' ch).symm (raised_ok q4 q3)
              (List.map_congr_left fun d' h => (denD_congr (fun i hi => (hx2.phi i hi).symm) d' (hds d' h))) (fun d' h => OkD.mono hx2.dom d' (hds d' h))
            simp only
            revert ih
            generalize leaveA C rec fn u0 e n ds (raisedA u' ch) s2 = out
            intro ih
            have hsteps := Steps.head hstep (q5.trans (.one hgo))
            cases out with
            | fail => trivial
            | returned v u s' =>
              obtain ⟨h0, φ', D', w', fr', g1, g2, g3, g4, g5⟩ := ih
              exact ⟨h0, φ', D', w', fr', g1, hx2.trans g2, g3, hsteps.trans g4, g5⟩
            | panicked ch2 u s' =>
              obtain ⟨h0, φ', D', w', fr', g1, g2, g3, g4, g5⟩ := ih
              exact ⟨h0, φ', D', w', fr', g1, hx2.trans g2, g3, hsteps.trans g4, g5⟩
        | value v' => exact hnr'.elim
        | _ => exact hnr'.elim
      | _ => trivial

end
end Go.Eng
