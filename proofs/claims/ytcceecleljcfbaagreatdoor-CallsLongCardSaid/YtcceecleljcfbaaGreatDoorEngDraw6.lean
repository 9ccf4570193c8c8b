/- The abstract interpreter: regions that draw their order are sound. -/
import Derived.Test.YtcceecleljcfbaaGreatDoorEngDraw5
namespace Go.Eng
set_option linter.unusedVariables false
set_option linter.unusedSimpArgs false

section
variable {C : Cx} {P : Program} {g : Rg} {rec : Rec}

theorem Merges.mono {V : T Value} {I : T Info} {K K' : Nat → Prop} (h : ∀ j, K j → K' j) {M M' : T Info} {s s' : St} (hm : Merges g V I K M s M' s') : Merges g V I K' M s M' s' := by
  induction hm with
  | refl M s => exact .refl M s
  | step h1 h2 h3 h4 h5 h6 _ ih => exact .step (h _ h1) h2 h3 h4 h5 h6 ih
theorem Merges.info {V V' : T Value} {I I' : T Info} {K : Nat → Prop} (h : ∀ j f, I.get j = some f → I'.get j = some f) (hV : ∀ j v, V.get j = some v → V'.get j = some v) {M M' : T Info} {s s' : St} (hm : Merges g V I K M s M' s') : Merges g V' I' K M s M' s' := by
  induction hm with
  | refl M s => exact .refl M s
  | step h1 h2 h3 h4 h5 h6 _ ih => exact .step h1 (h _ _ h2) h3 h4 h5 (h6.values hV) ih

theorem mergeA_spec {keep : Nat → Bool} : ∀ {l : List (Nat × Oper)} {V V' : T Value} {M M' : T Info} {s s' : St} {r : List (Nat × Oper)}, mergeA C rec g keep l V M s = some (V', M', s', r) →
    (∀ j v, V.get j = some v → V'.get j = some v) ∧ (∀ j f, M.get j = some f → M'.get j = some f) ∧ Merges g V' M' (fun j => keep j = true ∧ ∃ o, (j, o) ∈ l) M s M' s' ∧ ∀ x ∈ r, x ∈ l
  | [], V, V', M, M', s, s', r, h => by
    simp only [mergeA, Option.some.injEq, Prod.mk.injEq] at h
    obtain ⟨rfl, rfl, rfl, rfl⟩ := h
    exact ⟨fun _ _ h => h, fun _ _ h => h, .refl _ _, fun _ h => h⟩
  | (j, o) :: l, V, V', M, M', s, s', r, h => by
    simp only [mergeA] at h
    cases hk : keep j with
    | true =>
      rw [hk] at h
      simp only [cond_true] at h
      split at h
      · cases h
      rename_i m hm
      cases hkn : knownAllA V M m g.ops.length with
      | false => rw [hkn] at h; cases h
      | true =>
        rw [hkn] at h
        simp only [cond_true] at h
        split at h
        · cases h
        rename_i v s1 hst
        cases hn : Nat.beq s1.next s.next with
        | true =>
          rw [hn] at h
          simp only [cond_true] at h
          split at h
          case h_2 => cases h
          rename_i hVj
          obtain ⟨h0, h1, h2, h3⟩ := mergeA_spec h
          refine ⟨fun x u hx => h0 x u ?_, h1, h2.mono fun x ⟨hx, o', ho'⟩ => ⟨hx, o', List.mem_cons_of_mem _ ho'⟩, fun x hx => List.mem_cons_of_mem _ (h3 x hx)⟩
          rw [T.get_set, if_neg]
          · exact hx
          · intro e; subst e; rw [hVj] at hx; cases hx
        | false =>
          rw [hn] at h
          simp only [cond_false] at h
          split at h
          case h_2 => cases h
          rename_i v2 s2 hst2
          split at h
          case h_2 => cases h
          rename_i bk hb hM
          obtain ⟨h0, h1, h2, h3⟩ := mergeA_spec h
          refine ⟨h0, fun x f hx => h1 x f ?_, .step (j := j) (m := m) (f := ⟨s.next, v2, bk⟩) ⟨hk, o, List.mem_cons_self ..⟩ (h1 j _ (by rw [T.get_set, if_pos rfl])) hM rfl hm
            ((knownAll_spec hkn).values h0) (h2.mono fun x ⟨hx, o', ho'⟩ => ⟨hx, o', List.mem_cons_of_mem _ ho'⟩), fun x hx => List.mem_cons_of_mem _ (h3 x hx)⟩
          rw [T.get_set, if_neg]
          · exact hx
          · intro e; subst e; rw [hM] at hx; cases hx
    | false =>
      rw [hk] at h
      simp only [cond_false] at h
      split at h
      case h_2 => cases h
      rename_i V2 M2 s2 l2 hl
      simp only [Option.some.injEq, Prod.mk.injEq] at h
      obtain ⟨rfl, rfl, rfl, rfl⟩ := h
      obtain ⟨h0, h1, h2, h3⟩ := mergeA_spec hl
      refine ⟨h0, h1, h2.mono fun x ⟨hx, o', ho'⟩ => ⟨hx, o', List.mem_cons_of_mem _ ho'⟩, fun x hx => ?_⟩
      rcases List.mem_cons.1 hx with rfl | hx
      · exact List.mem_cons_self ..
      · exact List.mem_cons_of_mem _ (h3 x hx)

theorem restA_spec {h : Nat} : ∀ {l : List Oper} {i : Nat} {V V' : T Value} {pend : List (Nat × Oper)} {M M' : T Info} {s s' : St}, restA C rec g h l i V pend M s = some (V', M', s') →
    (∀ j v, V.get j = some v → V'.get j = some v) ∧ (∀ j f, M.get j = some f → M'.get j = some f)
  | [], i, V, V', pend, M, M', s, s', hh => by
    simp only [restA] at hh
    split at hh
    case h_2 => cases hh
    rename_i V1 M1 s1 r hm
    simp only [Option.some.injEq, Prod.mk.injEq] at hh
    obtain ⟨rfl, rfl, rfl⟩ := hh
    obtain ⟨h0, h1, _⟩ := mergeA_spec hm
    exact ⟨h0, h1⟩
  | o :: l, i, V, V', pend, M, M', s, s', hh => by
    simp only [restA] at hh
    split at hh
    case h_2 => cases hh
    rename_i m hcm hVi
    cases hb : bitB m h with
    | true =>
      rw [hb] at hh
      exact restA_spec hh
    | false =>
      rw [hb] at hh
      simp only [cond_false] at hh
      split at hh
      · exact restA_spec hh
      rename_i v s1 hst
      cases hn : Nat.beq s1.next s.next with
      | true =>
        rw [hn] at hh
        obtain ⟨g1, g2⟩ := restA_spec hh
        refine ⟨fun j v' hj => g1 j v' ?_, g2⟩
        rw [T.get_set, if_neg]
        · exact hj
        · intro e; subst e; rw [hVi] at hj; cases hj
      | false =>
        rw [hn] at hh
        exact restA_spec hh

theorem passA_spec : ∀ {l : List Oper} {i : Nat} {V V' : T Value} {pend : List (Nat × Oper)} {p : Pt} {pts pts' : List Pt} {I : T Info} {H nx : Nat} {out : DEnd}, passA C rec g l i V pend p p.B pts = some (V', pts', I, H, nx, out) →
    (∀ x o, l[x]? = some o → g.ops[i + x]? = some o) → (∀ x ∈ pend, x.1 < g.ops.length) → (∀ j, i ≤ j → bitB p.done j = false) →
    (∀ j v, V.get j = some v → V'.get j = some v) ∧ (∀ j f, p.M.get j = some f → I.get j = some f) ∧ (∀ q ∈ pts, q ∈ pts') ∧ p ∈ pts' ∧
    (∀ j, bitB p.done j = true → bitB H j = true) ∧ ((∀ q ∈ pts', quietAll C rec g V' I H nx q g.ops 0 = true) → Path C rec g V' I H nx out p)
  | [], i, V, V', pend, p, pts, pts', I, H, nx, out, h, hl, hpend, hdone => by
    simp only [passA] at h
    split at h
    case h_2 => cases h
    rename_i V1 M s1 r hm
    simp only [Option.some.injEq, Prod.mk.injEq] at h
    obtain ⟨rfl, rfl, rfl, rfl, rfl, rfl⟩ := h
    obtain ⟨h0, h1, h2, _⟩ := mergeA_spec hm
    refine ⟨h0, h1, fun q hq => List.mem_cons_of_mem _ hq, List.mem_cons_self .., fun _ h => h, fun hq => ?_⟩
    exact .done (hq p (List.mem_cons_self ..)) rfl (h2.mono fun j ⟨_, o, ho⟩ => hpend _ ho) rfl
  | o :: l, i, V, V', pend, p, pts, pts', I, H, nx, out, h, hl, hpend, hdone => by
    have ho : g.ops[i]? = some o := by have := hl 0 o rfl; simpa using this
    have hil : i < g.ops.length := (List.getElem?_eq_some_iff.1 ho).1
    have hl' : ∀ x o', l[x]? = some o' → g.ops[i + 1 + x]? = some o' := fun x o' hx => by
      have := hl (x + 1) o' (by simpa using hx)
      rwa [show i + (x + 1) = i + 1 + x from by omega] at this
    have later : ∀ {p : Pt} {pts : List Pt}, (∀ j, i ≤ j → bitB p.done j = false) → passA C rec g l (i + 1) V (pend ++ [(i, o)]) p p.B pts = some (V', pts', I, H, nx, out) →
        (∀ j v, V.get j = some v → V'.get j = some v) ∧ (∀ j f, p.M.get j = some f → I.get j = some f) ∧ (∀ q ∈ pts, q ∈ pts') ∧ p ∈ pts' ∧
        (∀ j, bitB p.done j = true → bitB H j = true) ∧ ((∀ q ∈ pts', quietAll C rec g V' I H nx q g.ops 0 = true) → Path C rec g V' I H nx out p) := by
      intro p pts hdone h
      exact passA_spec h hl' (fun x hx => by
        rcases List.mem_append.1 hx with hx | hx
        · exact hpend x hx
        · simp only [List.mem_singleton] at hx; subst hx; exact hil) (fun j hj => hdone j (by omega))
    simp only [passA] at h
    split at h
    case h_2 => cases h
    rename_i m hcm hVi
    cases hh : heavyB C g.cls p.done i m o l with
    | true =>
      rw [hh] at h
      simp only [cond_true] at h
      cases hs : subB p.done m with
      | false => rw [hs] at h; cases h
      | true =>
        rw [hs] at h
        simp only [cond_true] at h
        split at h
        · cases h
        rename_i V1 M s1 pend' hm
        cases hkn : knownAllA V1 M m g.ops.length with
        | false => rw [hkn] at h; cases h
        | true =>
          rw [hkn] at h
          simp only [cond_true] at h
          obtain ⟨k0, k1, k2, k3⟩ := mergeA_spec hm
          split at h
          · -- a panic
            split at h
            · cases h
            rename_i ch s2 hst
            split at h
            case h_2 => cases h
            rename_i V2 M2 s3 hrest
            simp only [Option.some.injEq, Prod.mk.injEq] at h
            obtain ⟨rfl, rfl, rfl, rfl, rfl, rfl⟩ := h
            obtain ⟨g1, g2⟩ := restA_spec hrest
            refine ⟨fun j v' hj => g1 j v' (k0 j v' hj), fun j f hj => g2 j f (k1 j f hj), fun q hq => List.mem_cons_of_mem _ hq, List.mem_cons_self .., fun j hj => by simp only [bit_lor, hj, Bool.true_or], fun hq => ?_⟩
            exact .pan (h := i) (m := m) (o := o) (ch := ch) (V' := V1) (M' := M) (s1 := s1) (s2 := s2) (hq p (List.mem_cons_self ..)) ho hcm (hdone i (Nat.le_refl _)) rfl hs ((k2.info g2 g1).mono fun j hj => hj.1) g1 g2
              ((knownAll_spec hkn).values g1) hst rfl
          rename_i v s2 hst
          split at h
          case h_2 => cases h
          rename_i hV1i
          have hVset : ∀ j v', V1.get j = some v' → (V1.set i v).get j = some v' := fun j v' hj => by
            rw [T.get_set, if_neg]
            · exact hj
            · intro e; subst e; rw [hV1i] at hj; cases hj
          have hdone' : ∀ j, i + 1 ≤ j → bitB (Nat.lor p.done (Nat.shiftLeft 1 i)) j = false := fun j hj => by
            rw [bit_lor, bit_one, hdone j (by omega)]
            simp; omega
          obtain ⟨g1, g2, g3, g4, g6, g7⟩ := passA_spec (p := ⟨s2, M, Nat.lor p.done (Nat.shiftLeft 1 i), Nat.lor p.clos m⟩) h hl' (fun x hx => hpend x (k3 x hx)) hdone'
          refine ⟨fun j v' hj => g1 j v' (hVset j v' (k0 j v' hj)), fun j f hj => g2 j f (k1 j f hj), fun q hq => g3 q (List.mem_cons_of_mem _ hq), g3 p (List.mem_cons_self ..), fun j hj => g6 j ?_, fun hq => ?_⟩
          · simp only [bit_lor, hj, Bool.true_or]
          · refine .step (h := i) (m := m) (o := o) (v := v) (V' := V1) (M' := M) (s1 := s1) (s2 := s2) (hq p (g3 p (List.mem_cons_self ..))) ho hcm (g1 i v (by rw [T.get_set, if_pos rfl])) (hdone i (Nat.le_refl _))
              (g6 i (by simp only [bit_lor, bit_one, decide_true, Bool.or_true])) hs ((k2.info g2 (fun j v' hj => g1 j v' (hVset j v' hj))).mono fun j hj => hj.1) (fun j v' hj => g1 j v' (hVset j v' hj)) g2
              ((knownAll_spec hkn).values (fun j v' hj => g1 j v' (hVset j v' hj))) hst (g7 hq)
    | false =>
      rw [hh] at h
      simp only [cond_false] at h
      split at h
      · exact later hdone h
      rename_i v s1 hst
      have hVset : ∀ (v : Value) j v', V.get j = some v' → (V.set i v).get j = some v' := fun v j v' hj => by
        rw [T.get_set, if_neg]
        · exact hj
        · intro e; subst e; rw [hVi] at hj; cases hj
      cases hn : Nat.beq s1.next p.B.next with
      | true =>
        rw [hn] at h
        simp only [cond_true] at h
        obtain ⟨g1, g2, g3, g4, g6, g7⟩ := passA_spec h hl' hpend (fun j hj => hdone j (by omega))
        exact ⟨fun j v' hj => g1 j v' (hVset v j v' hj), g2, g3, g4, g6, g7⟩
      | false =>
        rw [hn] at h
        simp only [cond_false] at h
        exact later hdone h

theorem putsA_spec {V : T Value} {M : T Info} : ∀ {l : List Oper} {i : Nat} {e e' : E}, putsA V M l i e = some e' →
    e'.n = e.n ∧ e'.defers = e.defers ∧ (∀ (x : Nat) (o : Oper) (d : Nat), l[x]? = some o → o.dst = some d → d < e.n) ∧
    ∀ d v, e'.tmps.get d = some v → (∃ (x : Nat) (o : Oper), l[x]? = some o ∧ o.dst = some d ∧ knownA V M (i + x) = some v) ∨ (e.tmps.get d = some v ∧ ∀ (x : Nat) (o : Oper), l[x]? = some o → o.dst ≠ some d)
  | [], i, e, e', h => by
    simp only [putsA, Option.some.injEq] at h; subst h
    exact ⟨rfl, rfl, fun _ _ _ h => (by cases h), fun d v h => .inr ⟨h, fun _ _ h => (by cases h)⟩⟩
  | o :: l, i, e, e', h => by
    simp only [putsA] at h
    split at h
    case h_2 => cases h
    rename_i v0 hk
    split at h
    case h_2 => cases h
    rename_i e1 hput
    obtain ⟨h1, h2, h3, h4⟩ := putsA_spec h
    obtain ⟨tm, n, ds⟩ := e
    cases hd : o.dst with
    | none =>
      rw [hd] at hput
      simp only [E.put, Option.some.injEq] at hput; subst hput
      refine ⟨h1, h2, fun x o' d hx ho' => ?_, fun d v hv => ?_⟩
      · cases x with
        | zero => simp only [List.getElem?_cons_zero, Option.some.injEq] at hx; subst hx; rw [hd] at ho'; cases ho'
        | succ x => exact h3 x o' d (by simpa using hx) ho'
      · rcases h4 d v hv with ⟨x, o', hx, ho', hk'⟩ | ⟨hb, hno⟩
        · exact .inl ⟨x + 1, o', by simpa using hx, ho', by rw [show i + (x + 1) = i + 1 + x from by omega]; exact hk'⟩
        · refine .inr ⟨hb, fun x o' hx => ?_⟩
          cases x with
          | zero => simp only [List.getElem?_cons_zero, Option.some.injEq] at hx; subst hx; rw [hd]; simp
          | succ x => exact hno x o' (by simpa using hx)
    | some t =>
      rw [hd] at hput
      simp only [E.put] at hput
      cases hb : Nat.blt t n with
      | false => rw [hb] at hput; cases hput
      | true =>
        rw [hb] at hput
        simp only [cond_true, Option.some.injEq] at hput; subst hput
        have hlt : t < n := by simpa [Nat.blt_eq] using hb
        refine ⟨h1, h2, fun x o' d hx ho' => ?_, fun d v hv => ?_⟩
        · cases x with
          | zero => simp only [List.getElem?_cons_zero, Option.some.injEq] at hx; subst hx; rw [hd] at ho'; cases ho'; exact hlt
          | succ x => exact h3 x o' d (by simpa using hx) ho'
        · rcases h4 d v hv with ⟨x, o', hx, ho', hk'⟩ | ⟨hb, hno⟩
          · exact .inl ⟨x + 1, o', by simpa using hx, ho', by rw [show i + (x + 1) = i + 1 + x from by omega]; exact hk'⟩
          · simp only at hb
            rw [T.get_set] at hb
            split at hb
            · rename_i ed
              cases hb
              exact .inl ⟨0, o, rfl, by rw [hd, ed], hk⟩
            · rename_i ed
              refine .inr ⟨hb, fun x o' hx => ?_⟩
              cases x with
              | zero => simp only [List.getElem?_cons_zero, Option.some.injEq] at hx; subst hx; rw [hd]; intro e; exact ed (Option.some.inj e).symm
              | succ x => exact hno x o' (by simpa using hx)

theorem dropA_spec : ∀ {l : List Oper} {e e' : E}, dropA l e = some e' → e'.n = e.n ∧ e'.defers = e.defers ∧ (∀ (x : Nat) (o : Oper) (d : Nat), l[x]? = some o → o.dst = some d → d < e.n) ∧
    ∀ d v, e'.tmps.get d = some v → e.tmps.get d = some v ∧ ∀ (x : Nat) (o : Oper), l[x]? = some o → o.dst ≠ some d
  | [], e, e', h => by
    simp only [dropA, Option.some.injEq] at h; subst h
    exact ⟨rfl, rfl, fun _ _ _ h => (by cases h), fun d v h => ⟨h, fun _ _ h => (by cases h)⟩⟩
  | o :: l, ⟨tm, n, ds⟩, e', h => by
    simp only [dropA] at h
    cases hd : o.dst with
    | none =>
      rw [hd] at h
      obtain ⟨h1, h2, h3, h4⟩ := dropA_spec h
      refine ⟨h1, h2, fun x o' d hx ho' => ?_, fun d v hv => ⟨(h4 d v hv).1, fun x o' hx => ?_⟩⟩
      · cases x with
        | zero => simp only [List.getElem?_cons_zero, Option.some.injEq] at hx; subst hx; rw [hd] at ho'; cases ho'
        | succ x => exact h3 x o' d (by simpa using hx) ho'
      · cases x with
        | zero => simp only [List.getElem?_cons_zero, Option.some.injEq] at hx; subst hx; rw [hd]; simp
        | succ x => exact (h4 d v hv).2 x o' (by simpa using hx)
    | some t =>
      rw [hd] at h
      simp only at h
      cases hb : Nat.blt t n with
      | false => rw [hb] at h; cases h
      | true =>
        rw [hb] at h
        simp only [cond_true] at h
        have hlt : t < n := by simpa [Nat.blt_eq] using hb
        obtain ⟨h1, h2, h3, h4⟩ := dropA_spec h
        refine ⟨h1, h2, fun x o' d hx ho' => ?_, fun d v hv => ?_⟩
        · cases x with
          | zero => simp only [List.getElem?_cons_zero, Option.some.injEq] at hx; subst hx; rw [hd] at ho'; cases ho'; exact hlt
          | succ x => exact h3 x o' d (by simpa using hx) ho'
        · have hv1 := (h4 d v hv).1
          simp only at hv1
          rw [T.get_del] at hv1
          split at hv1
          · cases hv1
          rename_i ed
          refine ⟨hv1, fun x o' hx => ?_⟩
          cases x with
          | zero => simp only [List.getElem?_cons_zero, Option.some.injEq] at hx; subst hx; rw [hd]; intro e; exact ed (Option.some.inj e).symm
          | succ x => exact (h4 d v hv).2 x o' (by simpa using hx)

theorem draw_sound (hC : CxOk C P) {rec : Rec} (hrec : RecOk C P rec) : DrawOk C P rec := by
  intro cf φ D s w e a u b k cs id ops hcs hI he hu hB
  generalize hout : drawnA C rec ops.toList e u s = out
  unfold drawnA at hout
  split at hout
  case h_2 => subst hout; trivial
  rename_i cls dm hcls hdm
  simp only at hout
  split at hout
  case h_2 => subst hout; trivial
  rename_i V pts I H nx d hpass
  cases hall0 : (infosA V I nx ops.toList 0 [] && pts.all fun q => quietAll C rec ⟨ops.toList, dm, cls, e⟩ V I H nx q ops.toList 0) with
  | false => rw [hall0] at hout; subst hout; trivial
  | true =>
    rw [hall0] at hout
    simp only [cond_true] at hout
    rw [Bool.and_eq_true] at hall0
    obtain ⟨hinfo, hall⟩ := hall0
    have hm : Masks ops.toList cls := masks_of hcls
    have hp : Places ops.toList dm := places_of hdm
    obtain ⟨_, _, _, _, _, hpath⟩ := passA_spec (g := ⟨ops.toList, dm, cls, e⟩) (p := ⟨s, .nil, 0, 0⟩) hpass (fun x o hx => by simpa using hx) (fun x hx => by cases hx) (fun j _ => bit_zero j)
    have hpath := hpath (fun q hq => List.all_eq_true.1 hall q hq)
    have hw1 : ({ w with drawn := w.drawn + 1 } : World).heap = w.heap := rfl
    have hI1 : Inv C φ D s { w with drawn := w.drawn + 1 } := ⟨hI.1.drew hw1, hI.2⟩
    have hx1 : Ext φ D s.heap w φ D s.heap { w with drawn := w.drawn + 1 } := Ext.drew rfl rfl rfl rfl
    have hrun0 : ∀ j, ¬ Ran (Array.replicate ops.size false) j := fun j h => by
      unfold Ran at h
      rw [Array.getElem?_replicate] at h
      split at h <;> simp at h
    have hIO : IOk V I ops.toList.length nx := iok_of hinfo
    have hspec0 := (quietAll_spec hpath.quiet).1
    have hinv : CInv C ⟨ops.toList, dm, cls, e⟩ V I φ D s.heap { w with drawn := w.drawn + 1 } s .nil (Ran (Array.replicate ops.size false)) φ D a { w with drawn := w.drawn + 1 } :=
      ⟨hI1, Ext.refl .., he.tmps.1, he.defers, he.ok, fun d v hd _ => he.tmps.2 d v hd, fun j v m h => absurd h (hrun0 j), fun j f h => absurd h (hrun0 j), fun j f h => (by rw [T.get_nil] at h; cases h), fun j f m h => absurd h (hrun0 j), fun j j' f f' h => absurd h (hrun0 j),
       fun j f hj hI hM => by
         have := (hspec0 j _ (List.getElem?_eq_getElem hj)).1 f (by rw [Nat.zero_add]; exact hI) (by rw [Nat.zero_add]; exact hM)
         exact this, fun j h => absurd h (hrun0 j)⟩
    have hstep := go_region_draw (P := P) (b := b) (a := a) (k := k) (cs := csOf cf.dfr φ u cs) (w := w) (id := id) (ops := ops)
    have hsch : Region.schedule (P.follows .mixedOrders) ops (w.tape w.drawn (.order b.fn id)) = Region.linearise.go .any ops ops.size (w.tape w.drawn (.order b.fn id)) (Array.replicate ops.size false) [] := by
      unfold Region.schedule
      rw [hC.mixed]; simp [Region.linearise]
    rw [hsch] at hstep
    have go := fun (hlt : ∀ (i : Nat) (o : Oper) (d : Nat), ops.toList[i]? = some o → o.dst = some d → d < e.n) =>
      draw_go (g := ⟨ops.toList, dm, cls, e⟩) hC hrec (ops := ops) rfl hm (fun i o m ho hc => trans_of hcls i o m ho hc) hp hlt (dfr := cf.dfr) (b := b) (k := k) (cs := cs) hu (nx := nx) hIO ops.size (w.tape w.drawn (.order b.fn id)) (Array.replicate ops.size false) (List.range ops.size)
      ⟨s, .nil, 0, 0⟩ φ D a { w with drawn := w.drawn + 1 } (by simp) List.nodup_range (fun i => by simp only [List.mem_range]; exact ⟨fun h => ⟨h, hrun0 i⟩, fun h => h.1⟩) (by simp)
      (fun j o h => absurd h (hrun0 j)) (fun j h => absurd h (hrun0 j)) (fun j h => by rw [bit_zero] at h; cases h) (fun j h => by rw [bit_zero] at h; cases h) hpath hinv
    split at hout
    · rename_i s1
      split at hout
      case h_2 => subst hout; trivial
      rename_i e' hputs
      subst hout
      obtain ⟨p1, p2, p3, p4⟩ := putsA_spec hputs
      obtain ⟨φ', D', a', w', S, z1, z2, z3⟩ := go (fun i o d ho hd => p3 i o d ho hd)
      have hext := hx1.trans z2.ext
      refine ⟨φ', D', w', a', z2.inv, ⟨⟨by rw [p1]; exact z2.size, ?_⟩, by rw [p2]; exact z2.defers, by rw [p2]; exact z2.dok⟩, okM.mono hext.dom hu, trivial, hext, ?_⟩
      · intro d v hd
        rcases p4 d v hd with ⟨x, o, hx, ho, hk⟩ | ⟨hb, hno⟩
        · rw [Nat.zero_add] at hk
          have hxl : x < ops.size := by have := (List.getElem?_eq_some_iff.1 hx).1; simpa using this
          have hdx := hp.1 x o d hx ho
          unfold knownA at hk
          split at hk
          · rename_i v' hv'
            cases hk
            obtain ⟨mx, hmx, _⟩ := hm x o hx
            have := z2.vals x v mx (z1 x hxl) hv' hmx
            refine ⟨Ok.mono (fun y hy => ?_) v this.1, this.2 d hdx⟩
            rcases hy with hy | ⟨j, f, _, _, hIj, hMj, _⟩
            · exact hy
            · rw [hIj] at hMj; cases hMj
          · split at hk
            · rename_i f hf
              cases hk
              have := z2.mrg x f (z1 x hxl) hf
              exact ⟨this.1, this.2 d hdx⟩
            · cases hk
        · refine z2.base d v hb fun j hj => ?_
          obtain ⟨o, ho, hd'⟩ := hp.2 d j hj
          exact absurd hd' (hno j o ho)
      · rw [← csOf_congr (fun i hi => (hext.phi i hi).symm) hu cs]
        exact Steps.head hstep z3
    · rename_i ch s1
      split at hout
      case h_2 => subst hout; trivial
      rename_i e' hdrop
      subst hout
      obtain ⟨p1, p2, p3, p4⟩ := dropA_spec hdrop
      obtain ⟨φ', D', a', w', S, z1, z2, z3, z4, z5, z6, z7, todo, z8⟩ := go (fun i o d ho hd => p3 i o d ho hd)
      have hext := hx1.trans z2
      refine ⟨φ', D', w', a', z1, ⟨⟨by rw [p1]; exact z4, ?_⟩, by rw [p2]; exact z5, by rw [p2]; exact z6⟩, okM.mono hext.dom hu, z3, hext, todo, ?_⟩
      · intro d v hd
        obtain ⟨hb, hno⟩ := p4 d v hd
        refine z7 d v hb fun j hj => ?_
        obtain ⟨o, ho, hd'⟩ := hp.2 d j hj
        exact absurd hd' (hno j o ho)
      · rw [← csOf_congr (fun i hi => (hext.phi i hi).symm) hu cs]
        exact Steps.head hstep z8

theorem recOf_sound (hC : CxOk C P) (n : Nat) : RecOk C P (recOf C n) := rec_sound hC (fun rec hrec => draw_sound hC hrec) n

end
end Go.Eng
