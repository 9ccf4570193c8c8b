/- The abstract interpreter: operands, and what an operation's answer says. -/
import Derived.Test.YtcceecleljcfbaaGreatDoorEngOps1
namespace Go.Eng
set_option linter.unusedSimpArgs false
set_option linter.unusedVariables false

structure ERel (φ : Phi) (D : Nat → Prop) (e : E) (a : Act) : Prop where
  tmps : TRel φ D e.tmps e.n a.tmps
  defers : a.defers = e.defers.map (denD φ)
  ok : ∀ d ∈ e.defers, OkD D d

theorem ERel.mono {φ φ' : Phi} {D D' : Nat → Prop} {e : E} {a : Act} (h : ERel φ D e a) (hD : ∀ i, D i → D' i) (hφ : ∀ i, D i → φ' i = φ i) : ERel φ' D' e a :=
  ⟨h.tmps.mono hD hφ, by rw [h.defers]; exact List.map_congr_left fun d hd => (denD_congr hφ d (h.ok d hd)).symm, fun d hd => OkD.mono hD d (h.ok d hd)⟩

section
variable {C : Cx} {P : Program} {φ : Phi} {D : Nat → Prop} {h : T Blk} {w : World} {e : E} {a : Act}

theorem eval_sound (hC : CxOk C P) (hr : Rel C φ D h w) (he : ERel φ D e a) {x : Operand} {v : Value} (hv : e.eval C x = some v) : a.eval x = den φ v ∧ Ok D v := by
  cases x with
  | tmp t =>
    have := he.tmps.2 t v hv
    refine ⟨?_, this.1⟩
    simp only [Act.eval, Array.getD_eq_getD_getElem?, this.2, Option.getD_some]
  | const c =>
    simp only [E.eval] at hv
    cases hb : closedB c with
    | false => rw [hb] at hv; cases hv
    | true =>
      rw [hb] at hv
      simp only [cond_true, Option.some.injEq] at hv
      subst hv
      have := closed_den φ D c hb
      exact ⟨this.1.symm, this.2⟩
  | global g =>
    simp only [E.eval] at hv
    cases hb : Nat.blt g C.globals with
    | false => rw [hb] at hv; cases hv
    | true =>
      rw [hb] at hv
      simp only [cond_true, Option.some.injEq] at hv
      subst hv
      have hg := hr.glob g (by simpa [Nat.blt_eq] using hb)
      simp only [Act.eval, den, hg.2, Ok]
      exact ⟨trivial, trivial, hg.1⟩
  | func f =>
    simp only [E.eval, Option.some.injEq] at hv
    subst hv
    simp only [Act.eval, den, denFn, denA, denL, Ok, okFn, OkA, OkL]
    exact ⟨trivial, trivial, trivial, trivial⟩

theorem evals_sound (hC : CxOk C P) (hr : Rel C φ D h w) (he : ERel φ D e a) : ∀ {xs : List Operand} {vs : List Value}, evals C e xs = some vs → xs.map a.eval = denL φ vs ∧ OkL D vs
  | [], vs, hv => by simp only [evals, Option.some.injEq] at hv; subst hv; exact ⟨rfl, trivial⟩
  | x :: r, vs, hv => by
    simp only [evals] at hv
    split at hv
    · rename_i v hx
      split at hv
      · rename_i l hl
        cases hv
        have h1 := eval_sound hC hr he hx
        have h2 := evals_sound hC hr he hl
        simp only [List.map_cons, denL, OkL, h1.1, h2.1]
        exact ⟨trivial, h1.2, h2.2⟩
      · cases hv
    · cases hv

theorem partsA_sound (hC : CxOk C P) (hr : Rel C φ D h w) (he : ERel φ D e a) : ∀ {xs : List (Nat × Operand)} {vs : List (Nat × Value)}, partsA C e xs = some vs →
    (xs.map fun p => (p.1, a.eval p.2)) = (vs.map fun p => (p.1, den φ p.2)) ∧ ∀ p ∈ vs, Ok D p.2
  | [], vs, hv => by simp only [partsA, Option.some.injEq] at hv; subst hv; exact ⟨rfl, fun _ h => by cases h⟩
  | (i, x) :: r, vs, hv => by
    simp only [partsA] at hv
    split at hv
    · rename_i v hx
      split at hv
      · rename_i l hl
        cases hv
        have h1 := eval_sound hC hr he hx
        have h2 := partsA_sound hC hr he hl
        simp only [List.map_cons, h1.1, h2.1]
        refine ⟨trivial, ?_⟩
        intro p hp
        rcases List.mem_cons.1 hp with rfl | hp
        · exact h1.2
        · exact h2.2 p hp
      · cases hv
    · cases hv

theorem oev_sound (hC : CxOk C P) (hr : Rel C φ D h w) (he : ERel φ D e a) {x : Option Operand} {v : Option Value} (hv : oev C e x = some v) : x.map a.eval = v.map (den φ) ∧ ∀ u, v = some u → Ok D u := by
  cases x with
  | none => simp only [oev, Option.some.injEq] at hv; subst hv; exact ⟨rfl, fun _ h => by cases h⟩
  | some y =>
    simp only [oev, Option.map_eq_some_iff] at hv
    obtain ⟨u, hu, rfl⟩ := hv
    have := eval_sound hC hr he hu
    exact ⟨by simp [this.1], fun u' h => by cases h; exact this.2⟩

theorem ERel.put (he : ERel φ D e a) {d : Option Tmp} {v : Value} {e' : E} (hv : Ok D v) (h : e.put d v = some e') : ERel φ D e' (a.put d (den φ v)) := by
  cases d with
  | none => simp only [E.put, Option.some.injEq] at h; subst h; exact he
  | some t =>
    obtain ⟨tm, n, ds⟩ := e
    simp only [E.put] at h
    cases hb : Nat.blt t n with
    | false => rw [hb] at h; cases h
    | true =>
      rw [hb] at h
      simp only [cond_true, Option.some.injEq] at h
      subst h
      have hlt : t < n := by simpa [Nat.blt_eq] using hb
      refine ⟨⟨by simp only [Act.put, Array.size_setIfInBounds]; exact he.tmps.1, ?_⟩, he.defers, he.ok⟩
      intro i u hi
      rw [T.get_set] at hi
      simp only [Act.put]
      split at hi
      · rename_i ei
        cases hi
        subst ei
        refine ⟨hv, ?_⟩
        rw [Array.getElem?_setIfInBounds_self_of_lt (by rw [he.tmps.1]; exact hlt)]
      · rename_i ei
        rw [Array.getElem?_setIfInBounds_ne (by omega)]
        exact he.tmps.2 i u hi

end

def NRel (φ : Phi) (D : Nat → Prop) (h : T Blk) : ANext → Next → Prop
  | .value v, .value v' => Ok D v ∧ v' = den φ v
  | .value v, .skip => v = undef
  | .enter f args, .enter f' args' => f' = f ∧ OkL D args ∧ args' = (denL φ args).toArray
  | .round l args, .round l' f tm as bd => l' = (φ l).block ∧ D l ∧ ∃ r, h.get l = some (.loop r) ∧ f = r.fn ∧ as = r.assign ∧ bd = r.body ∧ (args.length = r.params.size → TRel φ D (paramsT r.params.toList args r.tmps) r.ntm tm)
  | .defer d, .defer d' => OkD D d ∧ d' = denD φ d
  | .recover, .recover => True
  | _, _ => False

/-- What was answered holds, at some later places of the machine. -/
def After (C : Cx) (φ : Phi) (D : Nat → Prop) (s : St) (w : World) (s' : St) (Q : Phi → (Nat → Prop) → World → Prop) : Prop :=
  ∃ φ' D' w', Rel C φ' D' s'.heap w' ∧ Ext φ D s.heap w φ' D' s'.heap w' ∧ ((D' = D ∧ s'.next = s.next) ∨ (D' = addD D s.next ∧ s'.next = s.next + 1)) ∧ Q φ' D' w'

def OpOk (C : Cx) (φ : Phi) (D : Nat → Prop) (s : St) (w : World) (r : R ANext) (run : Result Next) : Prop :=
  match r with
  | .ok nx s' => After C φ D s w s' fun φ' D' w' => ∃ nx', run = .ok nx' w' ∧ NRel φ' D' s'.heap nx nx'
  | .panic v s' => After C φ D s w s' fun φ' D' w' => run = .halt (.panic (den φ' v)) w' ∧ Ok D' v
  | .fail => True

section
variable {C : Cx} {P : Program} {φ : Phi} {D : Nat → Prop} {s : St} {w : World} {e : E} {a : Act}

theorem After.same {s : St} {w : World} {Q : Phi → (Nat → Prop) → World → Prop} (hr : Rel C φ D s.heap w) (h : Q φ D w) : After C φ D s w s Q :=
  ⟨φ, D, w, hr, Ext.refl .., .inl ⟨rfl, rfl⟩, h⟩

theorem OpOk.value {s : St} {w : World} {o : Option Value} {run : Result Next} (hr : Rel C φ D s.heap w) (h : ∀ v, o = some v → run = .ok (.value (den φ v)) w ∧ Ok D v) : OpOk C φ D s w (ovalue o s) run := by
  cases o with
  | none => trivial
  | some v =>
    obtain ⟨h1, h2⟩ := h v rfl
    exact After.same hr ⟨_, h1, h2, rfl⟩

/-- A new block of cells, as the machine makes it. -/
theorem After.cells {s : St} {w w' : World} (hr : Rel C φ D s.heap w) (hn : ¬ D s.next) {vs : List Value} {c : Array Value} {elem : TypeId} {fr : Nat × Nat} {sl sz : Nat} {st : Nat} {par : Option Nat}
    (hw : w'.heap = w.heap.push (.cells c elem fr)) (ho : w'.os = w.os) (ht : w'.tape = w.tape) (hp : w'.output = w.output)
    (hvs : OkL D vs) (hsz : C.size elem = some sz) (hc : vs.length + sl * sz ≤ c.size) (hcs : ∀ (j : Nat) (v : Value), vs[j]? = some v → c[j]? = some (den φ v)) (hfr : fr.1 = fr.2 ∨ c.size ≤ fr.1)
    {Q : Phi → (Nat → Prop) → World → Prop} (hQ : Q (updPhi φ s.next ⟨w.heap.size, 0, sl⟩) (addD D s.next) w') :
    After C φ D s w (s.new (.cells vs elem st par)) Q := by
  have hφ : ∀ i, D i → updPhi φ s.next ⟨w.heap.size, 0, sl⟩ i = φ i := fun i hi => by
    unfold updPhi; rw [if_neg]; intro e; subst e; exact hn hi
  have hb : BlkIs C (updPhi φ s.next ⟨w.heap.size, 0, sl⟩) (addD D s.next) w' ⟨w.heap.size, 0, sl⟩ (.cells vs elem st par) := by
    refine ⟨OkL.mono (fun _ h => .inl h) _ hvs, c, fr, sz, ?_, hsz, by simpa using hc, ?_, fun _ => hfr, Nat.zero_mod _⟩
    · rw [hw]; simp
    · intro j v hj
      rw [Nat.zero_add, den_congr hφ v ((OkL_iff D vs).1 hvs v (List.mem_of_getElem? hj))]
      exact hcs j v hj
  obtain ⟨h1, h2⟩ := hr.new hn hw ho ht hp hb
  exact ⟨_, _, w', h1, h2, .inr ⟨rfl, rfl⟩, hQ⟩

theorem den_newPtr (φ : Phi) (n b sl : Nat) : den (updPhi φ n ⟨b, 0, sl⟩) (.pointer (some ⟨n, 0, none⟩)) = .pointer (some ⟨b, 0, none⟩) := by
  simp [den, updPhi]
theorem ok_newPtr (D : Nat → Prop) (n : Nat) : Ok (addD D n) (.pointer (some ⟨n, 0, none⟩)) := by
  simp only [Ok]; exact ⟨trivial, .inr rfl⟩

theorem getElem?_denL (φ : Phi) (l : List Value) (j : Nat) : (denL φ l)[j]? = l[j]?.map (den φ) := by rw [denL_map]; simp

/-! ### operations one by one -/
theorem op_move (hC : CxOk C P) (hr : Rel C φ D s.heap w) (he : ERel φ D e a) (x : Operand) : OpOk C φ D s w (ovalue (e.eval C x) s) ((pure (.value (a.eval x)) : Sem Next).run P w) :=
  .value hr fun v hv => by
    have := eval_sound hC hr he hv
    simp [this.1]; exact this.2

theorem op_alloc (hC : CxOk C P) (hr : Rel C φ D s.heap w) (hn : ¬ D s.next) {t : TypeId} {z : Value} (hz : C.zero t = some z) :
    OpOk C φ D s w (.ok (.value (.pointer (some ⟨s.next, 0, none⟩))) (s.new (.cells (cellsOf' z) t 0 none))) ((do pure (.value (← Instr.alloc t true (.tuple #[]))) : Sem Next).run P w) := by
  obtain ⟨h1, h2⟩ := zero_of hC hz
  have hcl := closed_den φ D z h2
  obtain ⟨i, hi⟩ : ∃ i, C.types.get t = some i := by
    rw [Cx.zero_eq] at hz; unfold zero0 at hz; split at hz
    · exact ⟨_, by assumption⟩
    · cases hz
  refine After.cells (w' := { w with heap := w.heap.push (.cells z.cells t) }) (c := z.cells) (fr := (0, 0)) (sl := 0) (sz := i.size) hr hn rfl rfl rfl rfl (cellsOf_ok hcl.2) (by simp [Cx.size_eq, size0, hi]) (by rw [cellsOf_eq]; simp) ?_ (.inl rfl) ?_
  · intro j v hj
    rw [cellsOf_eq] at hj
    have : z.cells = z.cells.map (den φ) := by rw [← cells_den, hcl.1]
    rw [this]; simp; exact ⟨v, by simpa using hj, rfl⟩
  · refine ⟨.value (.pointer (some ⟨w.heap.size, 0, none⟩)), ?_, ok_newPtr _ _, (den_newPtr _ _ _ _).symm⟩
    simp [Instr.alloc, h1, newVar, newRow]

theorem op_box (hC : CxOk C P) (hr : Rel C φ D s.heap w) (he : ERel φ D e a) (hn : ¬ D s.next) {t : TypeId} {x : Operand} {v : Value} {n : Nat} (hx : e.eval C x = some v) (hsz : C.size t = some n) :
    OpOk C φ D s w (.ok (.value (.pointer (some ⟨s.next, 0, none⟩))) (s.new (.cells (cellsOf' v) t 0 none))) ((do pure (.value (← Instr.box t (a.eval x))) : Sem Next).run P w) := by
  have hv := eval_sound hC hr he hx
  refine After.cells (w' := { w with heap := w.heap.push (.cells (den φ v).cells t) }) (c := (den φ v).cells) (fr := (0, 0)) (sl := 0) (sz := n) hr hn rfl rfl rfl rfl (cellsOf_ok hv.2) hsz (by rw [cellsOf_eq, cells_den]; simp) ?_ (.inl rfl) ?_
  · intro j u hj
    rw [cellsOf_eq] at hj
    rw [cells_den]; simp; exact ⟨u, by simpa using hj, rfl⟩
  · refine ⟨.value (.pointer (some ⟨w.heap.size, 0, none⟩)), ?_, ok_newPtr _ _, (den_newPtr _ _ _ _).symm⟩
    simp [Instr.box, newVar, newRow, hv.1]

theorem placesOf_eq (C : Cx) (hC : CxOk C P) : ∀ (fs : List Field) (ps : List (Nat × Nat)) (w : World), placesOf C fs = some ps →
    (fs.mapM (m := Sem) fun f => do pure (f.offset, ← sizeOf f.type)).run P w = .ok ps w
  | [], ps, w, h => by simp only [placesOf, Option.some.injEq] at h; subst h; simp [List.mapM_nil]
  | f :: r, ps, w, h => by
    simp only [placesOf] at h
    split at h
    · rename_i n hn
      split at h
      · rename_i l hl
        cases h
        have ih := placesOf_eq C hC r l w hl
        rw [List.mapM_cons]
        simp only [Sem.run_bind, run_size hC hn, Result.andThen_ok, Sem.run_pure, ih]
      · cases h
    · cases h

theorem buildA_sound (hC : CxOk C P) {t : TypeId} {parts : List (Nat × Value)} {v : Value} (h : buildA C t parts = some v) (ho : ∀ p ∈ parts, Ok D p.2) (w : World) (ps : Array (Nat × Value))
    (hps : ps.toList = parts.map fun p => (p.1, den φ p.2)) : (Instr.build t ps).run P w = .ok (den φ v) w ∧ Ok D v := by
  unfold buildA at h
  split at h
  case h_2 => cases h
  rename_i z hz
  obtain ⟨hz1, hz2⟩ := zero_of hC hz
  have hcl := closed_den φ D z hz2
  have hzc : z.cells = (denL φ (cellsOf' z)).toArray := by
    rw [denL_map, cellsOf_eq, ← List.map_toArray]; simp only [Array.toArray_toList]; rw [← cells_den, hcl.1]
  split at h
  · rename_i fields hu
    split at h
    case h_2 => cases h
    rename_i pl hpl
    split at h
    case h_2 => cases h
    rename_i l hl
    cases h
    refine ⟨?_, ?_⟩
    · have hm : (fields.mapM (m := Sem) fun f => do pure (f.offset, ← sizeOf f.type)).run P w = .ok pl.toArray w := by
        have ih := placesOf_eq C hC fields.toList pl w hpl
        rw [Array.mapM_eq_mapM_toList]
        simp only [Sem.run_map, ih, Result.andThen_ok]
      have hf := fill_den φ (place := nth pl) (place' := fun i => pl.toArray[i]?) (fun i p hp => by rw [nth_eq] at hp; simpa using hp) parts (cellsOf' z) l hl
      simp only [Instr.build, Sem.run_bind, hz1, Result.andThen_ok, run_und hC hu, hm, hps, hzc, hf]
      simp [den, denA]
    · simp only [Ok, OkA]
      exact fillL_ok parts _ l hl ho (cellsOf_ok hcl.2)
  · rename_i len elem hu
    split at h
    case h_2 => cases h
    rename_i n hn
    split at h
    case h_2 => cases h
    rename_i l hl
    cases h
    refine ⟨?_, ?_⟩
    · have hf := fill_den φ (place := fun i => some (i * n, n)) (place' := fun i => some (i * n, n)) (fun i p hp => hp) parts (cellsOf' z) l hl
      simp only [Instr.build, Sem.run_bind, hz1, Result.andThen_ok, run_und hC hu, run_size hC hn, hps, hzc, hf]
      simp [den, denA]
    · simp only [Ok, OkA]
      exact fillL_ok parts _ l hl ho (cellsOf_ok hcl.2)
  · cases h

theorem op_build (hC : CxOk C P) (hr : Rel C φ D s.heap w) (he : ERel φ D e a) {t : TypeId} {parts : Array (Nat × Operand)} {ps : List (Nat × Value)} (hp : partsA C e parts.toList = some ps) :
    OpOk C φ D s w (ovalue (buildA C t ps) s) ((do pure (.value (← Instr.build t (parts.map fun (i, x) => (i, a.eval x)))) : Sem Next).run P w) := by
  obtain ⟨h1, h2⟩ := partsA_sound hC hr he hp
  refine .value hr fun v hv => ?_
  obtain ⟨h3, h4⟩ := buildA_sound (φ := φ) hC hv h2 w (parts.map fun (i, x) => (i, a.eval x)) (by rw [Array.toList_map]; exact h1)
  exact ⟨by simp [h3], h4⟩

end
end Go.Eng
