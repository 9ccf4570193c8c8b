/- The abstract interpreter: a loop over a function. -/
import Derived.Test.YtcceecleljcfbaaGreatDoorEngCtl3
namespace Go.Eng
set_option linter.unusedVariables false
set_option linter.unusedSimpArgs false

section
variable {C : Cx} {P : Program} {φ : Phi} {D : Nat → Prop} {s : St} {w : World} {e : E} {a : Act} {b : Frame} {k : List Item} {cs : List Frame}

theorem go_rangeFunc {f : Operand} {ps : Array Tmp} {as bd : Code} {l : Nat} {mark : List Deferred} {w1 w2 : World} {g : FuncId} {args : Array Value}
    (h1 : (Instr.enterLoop b.fn a.tmps ps as bd b.roundOf).run P w = .ok (l, mark) w1)
    (h2 : (do let d ← resolve a.eval { callee := .value f, args := #[.const (.func (.yield l) #[] #[])], argTypes := #[] } 0; invoke d.target d.args : Sem Next).run P w1 = .ok (.enter g args) w2) :
    step P (lone (fat b a (.code (.rangeFunc f ps as bd) :: k)) cs w) =
      .next (lone (Frame.enter P g args .normal) (fat b { a with defers := mark ++ a.defers } (.inRangeFunc l :: k) :: cs) w2) := by
  have he : (fun x => Frame.eval { fn := b.fn, tmps := a.tmps, todo := .inRangeFunc l :: k, defers := mark ++ a.defers, mode := .run, kind := b.kind, roundOf := b.roundOf } x) = a.eval := by
    funext x; cases x <;> rfl
  refine step_lone_go ?_
  simp only [stepG, stepG.exec, fat, Sem.runT_eq, h1, GStep.bare_after]
  simp only [stepG.apply]
  have he' : Frame.eval { fn := b.fn, tmps := a.tmps, todo := .inRangeFunc l :: k, defers := mark ++ a.defers, mode := .run, kind := b.kind, roundOf := b.roundOf } = a.eval := he
  rw [he']
  simp only [Sem.runT_eq, if_true, h2, GStep.bare_after]
  simp

theorem go_endRange {l : Nat} {jump : Option Code} {w' : World} (h : (Instr.endLoop l).run P w = .ok jump w') :
    step P (lone (fat b a (.endRangeFunc l :: k)) cs w) = .next (lone (fat b a ((jump.map Item.code).toList ++ k)) cs w') := by
  refine step_lone_go ?_
  simp only [stepG, stepG.exec, fat, Sem.runT_eq, h, GStep.bare_after]
  simp

theorem finish_range {l : Nat} {v : Value} : (fat b a (.inRangeFunc l :: k)).finish v = fat b a (.endRangeFunc l :: k) := by simp [Frame.finish, fat]

/-- A new block that is no row. -/
theorem Inv.newObj {φ : Phi} {D : Nat → Prop} {s : St} {w : World} (hI : Inv C φ D s w) {o : Obj} {bk : Blk}
    (hb : ∀ (φ' : Phi) (D' : Nat → Prop) (w' : World), (∀ i, D i → D' i) → (∀ i, D i → φ' i = φ i) → w'.heap[w.heap.size]? = some o → BlkIs C φ' D' w' ⟨w.heap.size, 0, 0⟩ bk) :
    ∃ φ' D', Inv C φ' D' (s.new bk) { w with heap := w.heap.push o } ∧ Ext φ D s.heap w φ' D' (s.new bk).heap { w with heap := w.heap.push o } ∧ φ' s.next = ⟨w.heap.size, 0, 0⟩ ∧ D' s.next := by
  have hn : ¬ D s.next := fun h => Nat.lt_irrefl _ (hI.2 _ h)
  have hφ : ∀ i, D i → updPhi φ s.next ⟨w.heap.size, 0, 0⟩ i = φ i := fun i hi => by
    unfold updPhi; rw [if_neg]; intro e; subst e; exact hn hi
  obtain ⟨h1, h2⟩ := hI.1.new (w' := { w with heap := w.heap.push o }) hn rfl rfl rfl rfl (hb (updPhi φ s.next ⟨w.heap.size, 0, 0⟩) (addD D s.next) _ (fun _ h => .inl h) hφ (by simp))
  refine ⟨_, _, ⟨h1, ?_⟩, h2, by simp [updPhi], .inr rfl⟩
  intro i hi
  simp only [St.new]
  rcases hi with hi | hi
  · have := hI.2 i hi; omega
  · omega

theorem rangeFunc_sound (hC : CxOk C P) {rec : Rec} (hrec : RecOk C P rec) {cf : Cf} {f : Operand} {ps : Array Tmp} {as bd : Code} {u : FrameMode} (hcs : cf.dfr = true → cs ≠ [])
    (hI : Inv C φ D s w) (he : ERel φ D e a) (hu : okM D u) (hB : BOk φ D cf b) :
    Out C P φ D s w (lone (fat b a (.code (.rangeFunc f ps as bd) :: k)) (csOf cf.dfr φ u cs) w) b k cf.dfr cs (rangeFuncA C rec cf f ps as bd e u s) := by
  generalize hg : rangeFuncA C rec cf f ps as bd e u s = out
  unfold rangeFuncA at hg
  split at hg
  · subst hg; trivial
  rename_i fv hfv
  split at hg
  · subst hg; trivial
  rename_i d e' s1 hset
  -- the block for the deferred calls, the mark
  have first : ∃ φ1 D1 w1 dl mark, Inv C φ1 D1 s1 w1 ∧ Ext φ D s.heap w φ1 D1 s1.heap w1 ∧ D1 d ∧ (φ1 d).block = dl ∧ ERel φ1 D1 e' { a with defers := mark ++ a.defers } ∧
      (∀ (fn : FuncId) (tm : Array Value) , (Instr.enterLoop fn tm ps as bd b.roundOf).run P w =
        .ok (w1.heap.size, mark) { w1 with heap := w1.heap.push (.loop { state := .ready, pending := none, fn, tmps := tm, params := ps, assign := as, body := bd, defers := dl }) }) := by
    split at hset
    · rename_i hround
      cases hset
      obtain ⟨φ1, D1, h1, h2, h3, h4⟩ := hI.newObj (o := .deferred (some [])) (bk := .deferred (some [])) (fun φ' D' w' _ _ h => ⟨(fun l hl d hd => by cases hl; cases hd), h⟩)
      refine ⟨φ1, D1, _, w.heap.size, [{ target := .collected w.heap.size, args := #[] }], h1, h2, h4, by rw [h3], ?_, ?_⟩
      · have he1 := he.mono h2.dom h2.phi
        have := he1.deferred (d := { target := .collected s.next, args := #[] }) ⟨h4, trivial⟩
        have hden : denD φ1 { target := .collected s.next, args := #[] } = { target := .collected w.heap.size, args := #[] } := by
          simp [denD, denTarget, h3, denA, denL]
        rw [hden] at this
        exact this
      · intro fn tm
        have hro : b.roundOf = none := by rw [hB.round, hround]; rfl
        simp only [hro, Instr.enterLoop, Sem.run_bind, run_newObj, Result.andThen_ok, Sem.run_pure]
    · rename_i l hround
      split at hset
      case h_2 => cases hset
      rename_i r hl
      cases hset
      obtain ⟨hDl, tm0, htm0, hobj⟩ := hI.1.blk l _ hl
      refine ⟨φ, D, w, (φ r.defers).block, [], hI, Ext.refl .., hDl, rfl, by simpa using he, ?_⟩
      intro fn tm
      have hro : b.roundOf = some (φ l).block := by rw [hB.round, hround]; rfl
      simp only [hro, Instr.enterLoop, Instr.getLoop, Sem.run_bind, run_getObj hobj (by intro _ _ _ h; cases h), run_newObj, Result.andThen_ok, Sem.run_pure]
  obtain ⟨φ1, D1, w1, dl, mark, hI1, hx1, hDd, hdl, he1, henter⟩ := first
  -- the loop's own block
  have he0 := he.mono hx1.dom hx1.phi
  obtain ⟨φ2, D2, hI2, hx2, hp2, hD2⟩ := hI1.newObj (o := .loop { state := .ready, pending := none, fn := b.fn, tmps := a.tmps, params := ps, assign := as, body := bd, defers := dl })
    (bk := .loop { state := .ready, pending := none, fn := cf.fn, tmps := e.tmps, ntm := e.n, params := ps, assign := as, body := bd, defers := d })
    (fun φ' D' w' hD hφ h => ⟨hD _ hDd, a.tmps, he0.tmps.mono hD hφ, by rw [h, hφ _ hDd, hdl, hB.fn]⟩)
  have hx12 := hx1.trans hx2
  simp only at hg
  split at hg
  case h_2 => subst hg; trivial
  rename_i dd hdd
  have hfv' := eval_sound hC hI.1 he hfv
  have hfv2 : a.eval f = den φ2 fv ∧ Ok D2 fv := ⟨by rw [hfv'.1, den_congr (fun i hi => (hx12.phi i hi).symm) fv hfv'.2], Ok.mono hx12.dom fv hfv'.2⟩
  have hres : (resolve a.eval { callee := .value f, args := #[.const (.func (.yield w1.heap.size) #[] #[])], argTypes := #[] } 0).run P { w1 with heap := w1.heap.push (.loop { state := .ready, pending := none, fn := b.fn, tmps := a.tmps, params := ps, assign := as, body := bd, defers := dl }) } = .ok (denD φ2 dd) { w1 with heap := w1.heap.push (.loop { state := .ready, pending := none, fn := b.fn, tmps := a.tmps, params := ps, assign := as, body := bd, defers := dl }) } ∧ OkD D2 dd := by
    unfold ofValueA at hdd
    have hy : (#[Operand.const (.func (.yield w1.heap.size) #[] #[])].map a.eval) = #[.func (.yield w1.heap.size) #[] #[]] := by simp [Act.eval]
    have hyd : den φ2 (.func (.yield s1.next) #[] #[]) = .func (.yield w1.heap.size) #[] #[] := by simp [den, denFn, hp2, denA, denL]
    have hyo : Ok D2 (.func (.yield s1.next) #[] #[]) := by simp only [Ok, okFn, OkA, OkL]; exact ⟨hD2, trivial, trivial⟩
    split at hdd
    · rename_i fn first cap
      cases hdd
      have hk := hfv2.2
      simp only [Ok] at hk
      refine ⟨?_, ⟨hk.1, hk.2.2⟩, ?_⟩
      · simp only [resolve, hy, hfv2.1, den, Deferred.ofValue, Sem.run_pure, denD, denTarget]
        congr 2
        rw [denA_list, ← hyd]
        simp [denA, denL_map]
      · simp only [OkA]
        rw [OkA_iff] at hk
        rw [OkL_iff]
        intro x hx
        rcases List.mem_append.1 hx with hx | hx
        · exact hk.2.1 x hx
        · simp only [List.mem_singleton] at hx; subst hx; exact hyo
    · cases hdd
      refine ⟨?_, trivial, ?_⟩
      · simp only [resolve, hy, hfv2.1, den, Deferred.ofValue, Sem.run_pure, denD, denTarget]
        congr 2
        rw [← hyd]
        simp [denA, denL_map]
      · simp only [OkA, OkL]; exact ⟨hyo, trivial⟩
    · cases hdd
  obtain ⟨hres, hokd⟩ := hres
  have hn2 : ¬ D2 (s1.new (.loop { state := .ready, pending := none, fn := cf.fn, tmps := e.tmps, ntm := e.n, params := ps, assign := as, body := bd, defers := d })).next := fun h => Nat.lt_irrefl _ (hI2.2 _ h)
  have hinv := invoke_sound hC hI2.1 hn2 hokd
  generalize invokeA C dd.target dd.args.toList (s1.new (.loop { state := .ready, pending := none, fn := cf.fn, tmps := e.tmps, ntm := e.n, params := ps, assign := as, body := bd, defers := d })) = res at hinv hg
  split at hg
  case h_2 => subst hg; trivial
  rename_i g args s3
  obtain ⟨φ3, D3, w3, hI3, hx3, nx', hrun, hnr⟩ := After.inv hinv hI2.2
  cases nx' with
  | enter g' args' =>
    obtain ⟨rfl, hargs, rfl⟩ := hnr
    have hx13 := hx12.trans hx3
    have hgo := go_rangeFunc (P := P) (b := b) (a := a) (k := k) (cs := csOf cf.dfr φ u cs) (f := f) (henter b.fn a.tmps) (by simp only [Sem.run_bind, hres, Result.andThen_ok]; exact hrun)
    have hcall := hrec.call g' args s3 φ3 D3 w3 hI3 hargs
    generalize rec.call false g' args .run s3 = out' at hcall hg
    cases out' with
    | fail => subst hg; trivial
    | panicked ch u2 s4 =>
      subst hg
      obtain ⟨φ4, D4, w4, fr, q1, q2, q3, q4, q5, q6⟩ := hcall (fat b { a with defers := mark ++ a.defers } (.inRangeFunc w1.heap.size :: k) :: csOf cf.dfr φ u cs)
      have hx14 := hx13.trans q2
      have hx4 : Ext φ1 D1 s1.heap w1 φ4 D4 s4.heap w4 := (hx2.trans hx3).trans q2
      have hleave := step_leave_panicked (c := fat b { a with defers := mark ++ a.defers } (.inRangeFunc w1.heap.size :: k)) (cs := csOf cf.dfr φ u cs) q6
      refine ⟨φ4, D4, w4, { a with defers := mark ++ a.defers }, q1, he1.mono hx4.dom hx4.phi, okM.mono hx14.dom hu, q3, hx14, .inRangeFunc w1.heap.size :: k, ?_⟩
      rw [← csOf_congr (fun i hi => (hx14.phi i hi).symm) hu cs]
      exact .head hgo (q4.trans (.one hleave))
    | returned v u2 s4 =>
      obtain ⟨φ4, D4, w4, fr, q1, q2, q3, q4, q5, q6⟩ := hcall (fat b { a with defers := mark ++ a.defers } (.inRangeFunc w1.heap.size :: k) :: csOf cf.dfr φ u cs)
      have hx14 := hx13.trans q2
      have hx4 : Ext φ1 D1 s1.heap w1 φ4 D4 s4.heap w4 := (hx2.trans hx3).trans q2
      have hleave := step_leave_returned (c := fat b { a with defers := mark ++ a.defers } (.inRangeFunc w1.heap.size :: k)) (cs := csOf cf.dfr φ u cs) q6
      rw [finish_range] at hleave
      have hp4 : (φ4 s1.next).block = w1.heap.size := by
        have := (hx3.trans q2).phi s1.next hD2
        rw [this, hp2]
      simp only at hg
      split at hg
      case h_2 => subst hg; trivial
      rename_i r hl
      obtain ⟨hDr, tm, htm, hobj⟩ := q1.1.blk s1.next _ hl
      have hset := q1.1.setObj (o := .loop { state := .exhausted, pending := r.pending, fn := r.fn, tmps := tm, params := r.params, assign := r.assign, body := r.body, defers := (φ4 r.defers).block }) hl rfl rfl rfl
        (b' := .loop { r with state := .exhausted }) ⟨hDr, tm, htm, setB_same (heap_lt hobj)⟩
      have hend : r.state ≠ .busy → (Instr.endLoop w1.heap.size).run P w4 = .ok r.pending (setB w4 (φ4 s1.next).block (.loop { state := .exhausted, pending := r.pending, fn := r.fn, tmps := tm, params := r.params, assign := r.assign, body := r.body, defers := (φ4 r.defers).block })) := by
        intro hbusy
        have hbf : (r.state == LoopState.busy) = false := by
          cases hrs : r.state <;> first | rfl | (exact absurd hrs hbusy)
        rw [← hp4]
        simp only [Instr.endLoop, Instr.getLoop, Sem.run_bind, run_getObj hobj (by intro _ _ _ h; cases h), Result.andThen_ok, Sem.run_pure, hbf, Bool.false_eq_true, if_false, run_setObj hobj (by intro _ _ _ h; cases h)]
      have fin : r.state ≠ .busy → ∀ (x : X), (r.pending = none ∧ x = .normal) ∨ (∃ c, r.pending = some c ∧ exitOf c = some x) →
          Out C P φ D s w (lone (fat b a (.code (.rangeFunc f ps as bd) :: k)) (csOf cf.dfr φ u cs) w) b k cf.dfr cs (.fin x e' u { s4 with heap := s4.heap.set s1.next (.loop { r with state := .exhausted }) }) := by
        intro hbusy x hx
        have hx5 : Ext φ D s.heap w φ4 D4 (s4.heap.set s1.next (.loop { r with state := .exhausted })) _ := hx14.trans hset.2
        have hsteps := Steps.head hgo (q4.trans ((Steps.one hleave).trans (.one (go_endRange (b := b) (a := { a with defers := mark ++ a.defers }) (k := k) (cs := csOf cf.dfr φ u cs) (hend hbusy)))))
        have hcsφ : csOf cf.dfr φ u cs = csOf cf.dfr φ4 u cs := csOf_congr (fun i hi => (hx5.phi i hi).symm) hu cs
        refine ⟨φ4, D4, _, { a with defers := mark ++ a.defers }, ⟨hset.1, q1.2⟩, he1.mono hx4.dom hx4.phi, okM.mono hx5.dom hu, ?_, hx5, ?_⟩
        · rcases hx with ⟨_, rfl⟩ | ⟨c, _, hc⟩
          · trivial
          · cases c <;> simp [exitOf] at hc <;> subst hc <;> trivial
        · rw [← hcsφ]
          rcases hx with ⟨hp, rfl⟩ | ⟨c, hp, hc⟩
          · have hj : (r.pending.map Item.code).toList ++ k = k := by rw [hp]; rfl
            rw [hj] at hsteps; exact hsteps
          · have hj : (r.pending.map Item.code).toList ++ k = .code c :: k := by rw [hp]; rfl
            rw [hj] at hsteps
            cases c <;> simp [exitOf] at hc <;> subst hc
            · exact ⟨k, rfl, hsteps⟩
            · exact ⟨k, rfl, hsteps⟩
            · exact ⟨k, hsteps⟩
      split at hg
      · subst hg; trivial
      · rename_i hbusy
        split at hg
        · rename_i hp
          subst hg
          exact fin (fun h => hbusy h) .normal (.inl ⟨hp, rfl⟩)
        · rename_i c hp
          split at hg
          · rename_i x hx
            subst hg
            exact fin (fun h => hbusy h) x (.inr ⟨c, hp, hx⟩)
          · subst hg; trivial
  | value v' => exact hnr.elim
  | _ => exact hnr.elim

end
end Go.Eng
