/- The abstract interpreter: an operation within a region. -/
import Derived.Test.YtcceecleljcfbaaGreatDoorEngComm
namespace Go.Eng
set_option linter.unusedVariables false
set_option linter.unusedSimpArgs false

def denP (φ : Phi) (p : PanicEntry) : PanicEntry := { p with v := den φ p.v }
def okChain (D : Nat → Prop) (c : List PanicEntry) : Prop := ∀ p ∈ c, Ok D p.v
def denM (φ : Phi) : FrameMode → FrameMode
  | .panicking c => .panicking (c.map (denP φ))
  | m => m
def okM (D : Nat → Prop) : FrameMode → Prop
  | .panicking c => okChain D c
  | _ => True
def denX (φ : Phi) : X → X
  | .panic c => .panic (c.map (denP φ))
  | x => x
def okX (D : Nat → Prop) : X → Prop
  | .panic c => okChain D c
  | _ => True

theorem denC_congr {φ ψ : Phi} {D : Nat → Prop} (h : ∀ i, D i → φ i = ψ i) (c : List PanicEntry) (hc : okChain D c) : c.map (denP φ) = c.map (denP ψ) :=
  List.map_congr_left fun p hp => by simp only [denP, den_congr h _ (hc p hp)]
theorem denM_congr {φ ψ : Phi} {D : Nat → Prop} (h : ∀ i, D i → φ i = ψ i) (m : FrameMode) (hm : okM D m) : denM φ m = denM ψ m := by
  cases m <;> simp only [denM]
  rw [denC_congr h _ hm]
theorem okChain.mono {D D' : Nat → Prop} (h : ∀ i, D i → D' i) {c : List PanicEntry} (hc : okChain D c) : okChain D' c := fun p hp => Ok.mono h _ (hc p hp)
theorem okM.mono {D D' : Nat → Prop} (h : ∀ i, D i → D' i) {m : FrameMode} (hm : okM D m) : okM D' m := by
  cases m <;> simp only [okM] at hm ⊢
  exact okChain.mono h hm

/-- The callers' frames: only a deferred call turns the first one's mode. -/
def csOf (dfr : Bool) (φ : Phi) (u : FrameMode) (cs : List Frame) : List Frame :=
  match dfr, cs with
  | true, c :: r => { c with mode := denM φ u } :: r
  | _, cs => cs

theorem csOf_congr {dfr : Bool} {φ ψ : Phi} {D : Nat → Prop} (h : ∀ i, D i → φ i = ψ i) {u : FrameMode} (hu : okM D u) (cs : List Frame) : csOf dfr φ u cs = csOf dfr ψ u cs := by
  unfold csOf
  split
  · rw [denM_congr h u hu]
  · rfl

def Inv (C : Cx) (φ : Phi) (D : Nat → Prop) (s : St) (w : World) : Prop := Rel C φ D s.heap w ∧ ∀ i, D i → i < s.next

structure BOk (φ : Phi) (D : Nat → Prop) (cf : Cf) (b : Frame) : Prop where
  fn : b.fn = cf.fn
  kind : b.kind = if cf.dfr then .deferred else .normal
  round : b.roundOf = cf.round.map fun l => (φ l).block
  ok : ∀ l, cf.round = some l → D l

theorem BOk.mono {φ φ' : Phi} {D D' : Nat → Prop} {cf : Cf} {b : Frame} (h : BOk φ D cf b) (hD : ∀ i, D i → D' i) (hφ : ∀ i, D i → φ' i = φ i) : BOk φ' D' cf b :=
  ⟨h.fn, h.kind, by
    rw [h.round]
    cases hr : cf.round with
    | none => rfl
    | some l => simp [hφ l (h.ok l hr)], fun l hl => hD l (h.ok l hl)⟩

/-- What came of a piece of code that the machine began at m. -/
def Out (C : Cx) (P : Program) (φ : Phi) (D : Nat → Prop) (s : St) (w : World) (m : Machine) (b : Frame) (k : List Item) (dfr : Bool) (cs : List Frame) : COut → Prop
  | .fin x e u s' => ∃ φ' D' w' a', Inv C φ' D' s' w' ∧ ERel φ' D' e a' ∧ okM D' u ∧ okX D' x ∧ Ext φ D s.heap w φ' D' s'.heap w' ∧ Arr P m b k (csOf dfr φ' u cs) (denX φ' x) a' w'
  | .fail => True

/-- What came of a call. -/
structure RecOk (C : Cx) (P : Program) (r : Rec) : Prop where
  call : ∀ f args s φ D w, Inv C φ D s w → OkL D args → match r.call false f args .run s with
    | .returned v _ s' => ∀ cs, ∃ φ' D' w' fr, Inv C φ' D' s' w' ∧ Ext φ D s.heap w φ' D' s'.heap w' ∧ Ok D' v ∧
        Steps P (lone (Frame.enter P f (denL φ args).toArray .normal) cs w) (lone fr cs w') ∧ fr.fn = f ∧ fr.leaving P w' (.returned (den φ' v))
    | .panicked ch _ s' => ∀ cs, ∃ φ' D' w' fr, Inv C φ' D' s' w' ∧ Ext φ D s.heap w φ' D' s'.heap w' ∧ okChain D' ch ∧
        Steps P (lone (Frame.enter P f (denL φ args).toArray .normal) cs w) (lone fr cs w') ∧ fr.fn = f ∧ fr.leaving P w' (.panicked (ch.map (denP φ')))
    | .fail => True
  callD : ∀ f args u s φ D w, Inv C φ D s w → OkL D args → okM D u → match r.call true f args u s with
    | .returned v u' s' => ∀ c cs, c.mode = denM φ u → ∃ φ' D' w' fr, Inv C φ' D' s' w' ∧ Ext φ D s.heap w φ' D' s'.heap w' ∧ Ok D' v ∧ okM D' u' ∧
        Steps P (lone (Frame.enter P f (denL φ args).toArray .deferred) (c :: cs) w) (lone fr ({ c with mode := denM φ' u' } :: cs) w') ∧ fr.kind = .deferred ∧ fr.going P w' (.returned (den φ' v))
    | .panicked ch u' s' => ∀ c cs, c.mode = denM φ u → ∃ φ' D' w' fr, Inv C φ' D' s' w' ∧ Ext φ D s.heap w φ' D' s'.heap w' ∧ okChain D' ch ∧ okM D' u' ∧
        Steps P (lone (Frame.enter P f (denL φ args).toArray .deferred) (c :: cs) w) (lone fr ({ c with mode := denM φ' u' } :: cs) w') ∧ fr.kind = .deferred ∧ fr.going P w' (.panicked (ch.map (denP φ')))
    | .fail => True
  round : ∀ l args s φ D w l' f tm as bd, Inv C φ D s w → NRel φ D s.heap (.round l args) (.round l' f tm as bd) → match r.round l args s with
    | .returned v _ s' => ∀ c cs, ∃ φ' D' w', Inv C φ' D' s' w' ∧ Ext φ D s.heap w φ' D' s'.heap w' ∧ Ok D' v ∧
        Steps P (lone (Frame.round l' f tm as bd .normal) (c :: cs) w) (lone (c.finish (den φ' v)) cs w')
    | .panicked ch _ s' => ∀ c cs, ∃ φ' D' w', Inv C φ' D' s' w' ∧ Ext φ D s.heap w φ' D' s'.heap w' ∧ okChain D' ch ∧
        Steps P (lone (Frame.round l' f tm as bd .normal) (c :: cs) w) (lone (c.raise (ch.map (denP φ'))) cs w')
    | .fail => True

section
variable {C : Cx} {P : Program} {φ : Phi} {D : Nat → Prop} {s : St} {w : World} {e : E} {a : Act}

theorem After.inv {s' : St} {Q : Phi → (Nat → Prop) → World → Prop} (h : After C φ D s w s' Q) (hb : ∀ i, D i → i < s.next) :
    ∃ φ' D' w', Inv C φ' D' s' w' ∧ Ext φ D s.heap w φ' D' s'.heap w' ∧ Q φ' D' w' := by
  obtain ⟨φ', D', w', h1, h2, h3, h4⟩ := h
  refine ⟨φ', D', w', ⟨h1, ?_⟩, h2, h4⟩
  rcases h3 with ⟨rfl, hn⟩ | ⟨rfl, hn⟩
  · intro i hi; rw [hn]; exact hb i hi
  · intro i hi
    rw [hn]
    rcases hi with hi | hi
    · have := hb i hi; omega
    · omega

theorem den_bool_inv {v : Value} {b : Bool} (h : den φ v = .bool b) : v = .bool b := by
  cases v with
  | bool x => simpa [den] using h
  | pointer q => cases q <;> simp [den] at h
  | slice q l c => cases q <;> simp [den] at h
  | map q => cases q <;> simp [den] at h
  | chan q => cases q <;> simp [den] at h
  | _ => simp [den] at h

theorem wanted_sound (he : ERel φ D e a) {ops : Array Oper} {o : Oper} {r : Bool} (h : wantedA ops.toList e o = some r) : Region.wanted o (yielded ops a.tmps) = r := by
  unfold wantedA at h
  unfold Region.wanted
  split at h
  · rename_i hg; cases h; rw [hg]
  · rename_i j want hg
    rw [hg]
    simp only
    split at h
    · rename_i oj hj
      rw [nth_eq] at hj
      have hj' : ops[j]? = some oj := by simpa using hj
      split at h
      · rename_i d hd
        split at h
        · rename_i b hb
          cases h
          have := (he.tmps.2 d _ hb).2
          simp [yielded, hj', hd, this, den]
        · rename_i v hno hb
          cases h
          have := (he.tmps.2 d _ hb).2
          have hy : yielded ops a.tmps j = none := by
            simp only [yielded, hj', Option.bind_some, hd, this]
            split
            · rename_i b hq
              have := den_bool_inv (by simpa using hq)
              exact absurd this (hno b)
            · rfl
          rw [hy]; rfl
        · cases h
      · rename_i hd
        cases h
        have hy : yielded ops a.tmps j = none := by simp [yielded, hj', hd]
        rw [hy]; rfl
    · rename_i hj
      cases h
      rw [nth_eq] at hj
      have hj' : ops[j]? = none := by simpa using hj
      have hy : yielded ops a.tmps j = none := by simp [yielded, hj']
      rw [hy]; rfl

theorem exec_defer {ρ : Operand → Value} {o : Oper} {c : Call} {nx : Next} {w w' : World} (hc : o.op = .defer c) (h : (execOp ρ o).run P w = .ok nx w') : ∃ d, nx = .defer d := by
  simp only [execOp, hc, Sem.run_bind] at h
  cases hq : (resolve ρ c o.type).run P w with
  | ok d w2 => rw [hq] at h; simp at h; exact ⟨d, h.1.symm⟩
  | halt x w2 => rw [hq] at h; simp at h

theorem exec_defer_panic {ρ : Operand → Value} {o : Oper} {c : Call} {v : Value} {w w' : World} (hc : o.op = .defer c) (h : (execOp ρ o).run P w = .halt (.panic v) w') : False := by
  simp only [execOp, hc, Sem.run_bind] at h
  have : ∀ x w2, (resolve ρ c o.type).run P w = .halt x w2 → ∃ s, x = .stuck s := by
    intro x w2 hx
    unfold resolve at hx
    split at hx
    · simp at hx
    · simp at hx
    · unfold Deferred.ofValue at hx
      split at hx
      · simp at hx
      · simp at hx
      · simp at hx; exact ⟨_, hx.1.symm⟩
  cases hq : (resolve ρ c o.type).run P w with
  | ok d w2 => rw [hq] at h; simp at h
  | halt x w2 =>
    obtain ⟨s, rfl⟩ := this x w2 hq
    rw [hq] at h; simp at h

theorem ERel.deferred (he : ERel φ D e a) {d : Deferred} (hd : OkD D d) : ERel φ D { e with defers := d :: e.defers } { a with defers := denD φ d :: a.defers } :=
  ⟨he.tmps, by simp [he.defers], fun d' h => by
    rcases List.mem_cons.1 h with rfl | h
    · exact hd
    · exact he.ok d' h⟩

theorem opStep_sound (hC : CxOk C P) {rec : Rec} (hrec : RecOk C P rec) {cf : Cf} {ops : Array Oper} {i : Nat} {rest : List Nat} {o : Oper} (ho : ops[i]? = some o) {u : FrameMode} {b : Frame} {k : List Item} {cs : List Frame}
    (hI : Inv C φ D s w) (he : ERel φ D e a) (hu : okM D u) (hB : BOk φ D cf b) (hcs : cf.dfr = true → cs ≠ []) :
    Out C P φ D s w (lone (fat b a (.inRegion ops (i :: rest) :: k)) (csOf cf.dfr φ u cs) w) b (.inRegion ops rest :: k) cf.dfr cs (opStep C rec cf ops.toList o e u s) := by
  have hr := hI.1
  have hn : ¬ D s.next := fun h => Nat.lt_irrefl _ (hI.2 _ h)
  -- a value is put down
  have putv : ∀ (v v' : Value) (u' : FrameMode) (s' : St) (φ' : Phi) (D' : Nat → Prop) (w' : World) (a1 : Act) (e1 : E), Inv C φ' D' s' w' → Ext φ D s.heap w φ' D' s'.heap w' → ERel φ' D' e1 a1 → Ok D' v → v' = den φ' v → okM D' u' →
      Steps P (lone (fat b a (.inRegion ops (i :: rest) :: k)) (csOf cf.dfr φ u cs) w) (lone (fat b (a1.put o.dst v') (.inRegion ops rest :: k)) (csOf cf.dfr φ' u' cs) w') →
      Out C P φ D s w (lone (fat b a (.inRegion ops (i :: rest) :: k)) (csOf cf.dfr φ u cs) w) b (.inRegion ops rest :: k) cf.dfr cs
        (match e1.put o.dst v with | some e => .fin .normal e u' s' | none => .fail) := by
    intro v v' u' s' φ' D' w' a1 e1 h1 h2 h3 h4 h5 h6 h7
    cases hp : e1.put o.dst v with
    | none => trivial
    | some e2 =>
      subst h5
      exact ⟨φ', D', w', _, h1, h3.put h4 hp, h6, trivial, h2, h7⟩
  unfold opStep
  split
  · rename_i hwant
    have hw := wanted_sound he hwant
    split
    · -- communication
      rename_i v s' hcm
      obtain ⟨w', h1, h2, h3, h4, h5⟩ := comm_sound (b := b) (k := k) (cs := csOf cf.dfr φ u cs) (rest := rest) hC ho hw hr he hcm
      exact putv v (den φ v) u s' φ D w' a e ⟨h1, fun i hi => by rw [h3]; exact hI.2 i hi⟩ h2 he h4 rfl hu (.one h5)
    have hop := opA_sound hC hr he hn o
    generalize opA C e o s = res at hop
    have hdc : b.roundOf = none ∨ (∀ c, o.op ≠ .defer c) ∨ ∃ c, o.op = .defer c := by
      cases o.op <;> simp
    split
    · -- a value
      rename_i v s'
      obtain ⟨φ', D', w', h1, h2, nx', hrun, hnr⟩ := After.inv hop hI.2
      have hd : b.roundOf = none ∨ ∀ c, o.op ≠ .defer c := by
        right; intro c hc
        simp only [execOp, hc, Sem.run_bind] at hrun
        cases hq : (resolve a.eval c o.type).run P w with
        | ok d w2 => rw [hq] at hrun; simp at hrun; rw [← hrun.1] at hnr; exact hnr.elim
        | halt x w2 => rw [hq] at hrun; simp at hrun
      have hcsφ : csOf cf.dfr φ u cs = csOf cf.dfr φ' u cs := csOf_congr (fun i hi => (h2.phi i hi).symm) hu cs
      cases nx' with
      | value v' =>
        refine putv v v' u s' φ' D' w' a e h1 h2 (he.mono h2.dom h2.phi) hnr.1 hnr.2 (okM.mono h2.dom hu) ?_
        rw [← hcsφ]
        exact .one (go_value ho hw hd hrun)
      | skip =>
        have hv : v = undef := hnr
        subst hv
        refine putv undef undef u s' φ' D' w' a e h1 h2 (he.mono h2.dom h2.phi) (ok_undef _) (den_undef _).symm (okM.mono h2.dom hu) ?_
        rw [← hcsφ]
        exact .one (go_opskip ho hw hd hrun)
      | _ => exact hnr.elim
    · -- a call
      rename_i f args s'
      obtain ⟨φ', D', w', h1, h2, nx', hrun, hnr⟩ := After.inv hop hI.2
      have hcsφ : csOf cf.dfr φ u cs = csOf cf.dfr φ' u cs := csOf_congr (fun i hi => (h2.phi i hi).symm) hu cs
      cases nx' with
      | enter f' args' =>
        obtain ⟨rfl, hargs, rfl⟩ := hnr
        have hd : b.roundOf = none ∨ ∀ c, o.op ≠ .defer c := .inr fun c hc => by obtain ⟨d, hd⟩ := exec_defer hc hrun; cases hd
        have hcall := hrec.call f' args s' φ' D' w' h1 hargs
        generalize rec.call false f' args .run s' = out at hcall
        have hent := go_enter (P := P) (b := b) (a := a) (k := k) (rest := rest) (cs := csOf cf.dfr φ u cs) ho hw hd hrun
        cases out with
        | returned v u2 s2 =>
          obtain ⟨φ2, D2, w2, fr, g1, g2, g3, g4, g5, g6⟩ := hcall (fat b a (.inRegion ops (i :: rest) :: k) :: csOf cf.dfr φ u cs)
          have hext := h2.trans g2
          have hcsφ2 : csOf cf.dfr φ u cs = csOf cf.dfr φ2 u cs := csOf_congr (fun i hi => (hext.phi i hi).symm) hu cs
          refine putv v (den φ2 v) u s2 φ2 D2 w2 a e g1 hext (he.mono hext.dom hext.phi) g3 rfl (okM.mono hext.dom hu) ?_
          have hleave := step_leave_returned (c := fat b a (.inRegion ops (i :: rest) :: k)) (cs := csOf cf.dfr φ u cs) g6
          rw [finish_fat, ho] at hleave
          rw [← hcsφ2]
          exact .head hent (g4.trans (.one hleave))
        | panicked ch u2 s2 =>
          obtain ⟨φ2, D2, w2, fr, g1, g2, g3, g4, g5, g6⟩ := hcall (fat b a (.inRegion ops (i :: rest) :: k) :: csOf cf.dfr φ u cs)
          have hext := h2.trans g2
          have hcsφ2 : csOf cf.dfr φ u cs = csOf cf.dfr φ2 u cs := csOf_congr (fun i hi => (hext.phi i hi).symm) hu cs
          have hleave := step_leave_panicked (c := fat b a (.inRegion ops (i :: rest) :: k)) (cs := csOf cf.dfr φ u cs) g6
          refine ⟨φ2, D2, w2, a, g1, he.mono hext.dom hext.phi, okM.mono hext.dom hu, g3, hext, .inRegion ops (i :: rest) :: k, ?_⟩
          rw [← hcsφ2]
          exact .head hent (g4.trans (.one hleave))
        | fail => trivial
      | value v' => exact hnr.elim
      | _ => exact hnr.elim
    · -- a round
      rename_i l args s'
      obtain ⟨φ', D', w', h1, h2, nx', hrun, hnr⟩ := After.inv hop hI.2
      cases nx' with
      | round l' f tm as bd =>
        have hd : b.roundOf = none ∨ ∀ c, o.op ≠ .defer c := .inr fun c hc => by obtain ⟨d, hd⟩ := exec_defer hc hrun; cases hd
        have hcall := hrec.round l args s' φ' D' w' l' f tm as bd h1 hnr
        generalize rec.round l args s' = out at hcall
        have hent := go_round (P := P) (b := b) (a := a) (k := k) (rest := rest) (cs := csOf cf.dfr φ u cs) ho hw hd hrun
        cases out with
        | returned v u2 s2 =>
          obtain ⟨φ2, D2, w2, g1, g2, g3, g4⟩ := hcall (fat b a (.inRegion ops (i :: rest) :: k)) (csOf cf.dfr φ u cs)
          have hext := h2.trans g2
          have hcsφ2 : csOf cf.dfr φ u cs = csOf cf.dfr φ2 u cs := csOf_congr (fun i hi => (hext.phi i hi).symm) hu cs
          refine putv v (den φ2 v) u s2 φ2 D2 w2 a e g1 hext (he.mono hext.dom hext.phi) g3 rfl (okM.mono hext.dom hu) ?_
          rw [finish_fat, ho] at g4
          rw [← hcsφ2]
          exact .head hent g4
        | panicked ch u2 s2 =>
          obtain ⟨φ2, D2, w2, g1, g2, g3, g4⟩ := hcall (fat b a (.inRegion ops (i :: rest) :: k)) (csOf cf.dfr φ u cs)
          have hext := h2.trans g2
          have hcsφ2 : csOf cf.dfr φ u cs = csOf cf.dfr φ2 u cs := csOf_congr (fun i hi => (hext.phi i hi).symm) hu cs
          refine ⟨φ2, D2, w2, a, g1, he.mono hext.dom hext.phi, okM.mono hext.dom hu, g3, hext, .inRegion ops (i :: rest) :: k, ?_⟩
          rw [← hcsφ2]
          exact .head hent g4
        | fail => trivial
      | value v' => exact hnr.elim
      | _ => exact hnr.elim
    · -- a deferred call
      rename_i d s'
      obtain ⟨φ', D', w', h1, h2, nx', hrun, hnr⟩ := After.inv hop hI.2
      split
      case h_2 => trivial
      rename_i hround
      cases nx' with
      | defer d' =>
        obtain ⟨hok, rfl⟩ := hnr
        have hro : b.roundOf = none := by rw [hB.round, hround]; rfl
        have hgo := go_defer (P := P) (b := b) (a := a) (k := k) (rest := rest) (cs := csOf cf.dfr φ u cs) ho hw hro hrun
        have hcsφ : csOf cf.dfr φ u cs = csOf cf.dfr φ' u cs := csOf_congr (fun i hi => (h2.phi i hi).symm) hu cs
        have he' := he.mono h2.dom h2.phi
        cases hp : e.put o.dst undef with
        | none => trivial
        | some e2 =>
          have h3 := (he'.put (ok_undef _) hp).deferred hok
          have ha : ({ a.put o.dst (den φ' undef) with defers := denD φ' d :: (a.put o.dst (den φ' undef)).defers } : Act) = ({ a with defers := denD φ' d :: a.defers } : Act).put o.dst undef := by
            rw [den_undef]
            cases o.dst <;> rfl
          rw [ha] at h3
          refine ⟨φ', D', w', _, h1, h3, okM.mono h2.dom hu, trivial, h2, ?_⟩
          rw [← hcsφ]
          exact .one hgo
      | value v' => exact hnr.elim
      | _ => exact hnr.elim
    · -- recover
      rename_i s'
      obtain ⟨φ', D', w', h1, h2, nx', hrun, hnr⟩ := After.inv hop hI.2
      cases nx' with
      | recover =>
        cases hrec' : recA cf u with
        | none => trivial
        | some p =>
          obtain ⟨v, u'⟩ := p
          unfold recA at hrec'
          split at hrec'
          · cases hrec'
          · rename_i hround
            have hro : b.roundOf = none := by rw [hB.round, hround]; rfl
            have he' := he.mono h2.dom h2.phi
            cases hdf : cf.dfr with
            | false =>
              rw [hdf] at hrec'
              simp only [cond_false, Option.some.injEq, Prod.mk.injEq] at hrec'
              obtain ⟨rfl, rfl⟩ := hrec'
              have hk : b.kind = .normal := by rw [hB.kind, hdf]; rfl
              have := go_recover_normal (P := P) (b := b) (a := a) (k := k) (rest := rest) (cs := csOf cf.dfr φ u cs) ho hw hk hro hrun
              have hcsφ : csOf cf.dfr φ u cs = csOf cf.dfr φ' u cs := csOf_congr (fun i hi => (h2.phi i hi).symm) hu cs
              rw [← hdf]
              refine putv .nilIface .nilIface u s' φ' D' w' a e h1 h2 he' (by simp [Ok]) (by simp [den]) (okM.mono h2.dom hu) ?_
              rw [← hcsφ]
              exact .one this
            | true =>
              rw [hdf] at hrec'
              simp only [cond_true] at hrec'
              have hk : b.kind = .deferred := by rw [hB.kind, hdf]; rfl
              have hgo := go_recover_deferred (P := P) (b := b) (a := a) (k := k) (rest := rest) (cs := csOf cf.dfr φ u cs) ho hw hk hro hrun
              obtain ⟨c, cr, rfl⟩ : ∃ c cr, cs = c :: cr := by
                cases cs with
                | nil => exact absurd rfl (hcs hdf)
                | cons c cr => exact ⟨c, cr, rfl⟩
              have hcsφ : csOf cf.dfr φ u (c :: cr) = csOf cf.dfr φ' u (c :: cr) := csOf_congr (fun i hi => (h2.phi i hi).symm) hu _
              have hu' := okM.mono h2.dom hu
              rw [← hdf]
              split at hrec'
              · rename_i pv older
                simp only [Option.some.injEq, Prod.mk.injEq] at hrec'
                obtain ⟨rfl, rfl⟩ := hrec'
                have hpv : Ok D' pv := hu' _ (List.mem_cons_self ..)
                refine putv pv (den φ' pv) (.panicking ({ v := pv, recovered := true } :: older)) s' φ' D' w' a e h1 h2 he' hpv rfl (by
                  intro p hp
                  rcases List.mem_cons.1 hp with rfl | hp
                  · exact hpv
                  · exact hu' p (List.mem_cons_of_mem _ hp)) ?_
                rw [hcsφ, hdf] at hgo ⊢
                simp only [csOf, denM, List.map_cons, denP, recoverD] at hgo
                exact .one hgo
              · rename_i hno
                simp only [Option.some.injEq, Prod.mk.injEq] at hrec'
                obtain ⟨rfl, rfl⟩ := hrec'
                refine putv .nilIface .nilIface u s' φ' D' w' a e h1 h2 he' (by simp [Ok]) (by simp [den]) hu' ?_
                have hnone : recoverD (csOf cf.dfr φ u (c :: cr)) = none := by
                  rw [hdf]
                  simp only [csOf, recoverD]
                  split
                  · rename_i v' older' hm
                    exfalso
                    cases u with
                    | panicking ch =>
                      cases ch with
                      | nil => simp [denM] at hm
                      | cons p r =>
                        simp only [denM, List.map_cons, denP, FrameMode.panicking.injEq, List.cons.injEq, PanicEntry.mk.injEq] at hm
                        obtain ⟨⟨hm1, hm2, hm3⟩, _⟩ := hm
                        obtain ⟨pv, pr, pg⟩ := p
                        simp only at hm2 hm3
                        subst hm2; subst hm3
                        exact hno pv r rfl
                    | run => simp [denM] at hm
                    | returning => simp [denM] at hm
                  · rfl
                rw [hnone] at hgo
                rw [← hcsφ]
                exact .one hgo
      | value v' => exact hnr.elim
      | _ => exact hnr.elim
    · -- a panic
      rename_i v s'
      obtain ⟨φ', D', w', h1, h2, hrun, hok⟩ := After.inv hop hI.2
      have hd : b.roundOf = none ∨ ∀ c, o.op ≠ .defer c := .inr fun c hc => exec_defer_panic hc hrun
      have hcsφ : csOf cf.dfr φ u cs = csOf cf.dfr φ' u cs := csOf_congr (fun i hi => (h2.phi i hi).symm) hu cs
      refine ⟨φ', D', w', a, h1, he.mono h2.dom h2.phi, okM.mono h2.dom hu, ?_, h2, .inRegion ops (i :: rest) :: k, ?_⟩
      · intro p hp
        simp only [List.mem_singleton] at hp
        subst hp; exact hok
      · rw [← hcsφ]
        exact .one (go_panic ho hw hd hrun)
    · trivial
  · rename_i hwant
    have hw := wanted_sound he hwant
    refine putv undef undef u s φ D w a e hI (Ext.refl ..) he (ok_undef _) (den_undef _).symm hu ?_
    have := go_op_skip (P := P) (b := b) (a := a) (k := k) (cs := csOf cf.dfr φ u cs) (w := w) (ops := ops) (i := i) (rest := rest) (by simp [ho, hw])
    rw [ho] at this
    exact .one this
  · trivial

end
end Go.Eng
