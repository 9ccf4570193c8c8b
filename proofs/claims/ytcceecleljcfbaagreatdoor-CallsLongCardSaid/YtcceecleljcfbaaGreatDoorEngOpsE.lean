/- The abstract interpreter: the rest of the operations. -/
import Derived.Test.YtcceecleljcfbaaGreatDoorEngOpsD
import Derived.Laws.Externs
namespace Go.Eng
set_option linter.unusedVariables false
set_option linter.unusedSimpArgs false

section
variable {C : Cx} {P : Program} {φ : Phi} {D : Nat → Prop} {s : St} {w : World} {e : E} {a : Act}

theorem len_sound (hC : CxOk C P) (hr : Rel C φ D s.heap w) {argTypes : Array TypeId} {type : TypeId} {args : List Value} {v : Value} (h : lenA C argTypes.toList args s = some v) :
    (Builtin.len_ argTypes type (denL φ args).toArray).run P w = .ok (den φ v) w ∧ Ok D v := by
  unfold lenA at h
  split at h
  case h_2 => cases h
  rename_i t rt x rx hat
  have at0 : argTypes[0]? = some t := by rw [← Array.getElem?_toList, hat]; rfl
  have av0 : (denL φ (x :: rx)).toArray[0]? = some (den φ x) := by simp [denL]
  unfold Builtin.len_
  simp only [at0, av0, Sem.run_bind]
  split at h
  · rename_i b hu
    cases h
    simp only [run_und hC hu, Result.andThen_ok, den, Sem.run_pure, goInt, Ok]; exact ⟨trivial, trivial⟩
  · rename_i n el hu
    cases h
    simp only [run_und hC hu, Result.andThen_ok, den, Sem.run_pure, goInt, Ok]; exact ⟨trivial, trivial⟩
  · rename_i el ad n cap hu
    cases h
    rw [run_und hC hu, Result.andThen_ok]
    refine ⟨?_, by simp [Ok]⟩
    cases ad <;> simp [den, goInt]
  · rename_i k el hu
    cases h
    simp only [run_und hC hu, Result.andThen_ok, den, Sem.run_pure, goInt, Ok]; exact ⟨trivial, trivial⟩
  · rename_i k el r hu
    split at h
    · rename_i es clock hb
      cases h
      obtain ⟨ho, h1⟩ := hr.blk r _ hb
      simp only [run_und hC hu, Result.andThen_ok, den, Sem.run_bind, run_getObj h1 (by intro _ _ _ h; cases h), Sem.run_pure, goInt, Ok]
      simp
    · cases h
  · rename_i dir el hu
    cases h
    simp only [run_und hC hu, Result.andThen_ok, den, Sem.run_pure, goInt, Ok]; exact ⟨trivial, trivial⟩
  · rename_i dir el r hu
    split at h
    · rename_i cap buf sent rcvd hb
      cases h
      obtain ⟨ho, h1⟩ := hr.blk r _ hb
      simp only [run_und hC hu, Result.andThen_ok, den, Sem.run_bind, run_getObj h1 (by intro _ _ _ h; cases h), Sem.run_pure, goInt, Ok]
      simp [denL_map]
    · cases h
  · cases h

theorem typeAssert_sound (hC : CxOk C P) {x v : Value} {xType asserted : TypeId} {ok : Bool} (h : typeAssertA C x asserted ok = some v) (hx : Ok D x) :
    (Instr.typeAssert (den φ x) xType asserted ok).run P w = .ok (den φ v) w ∧ Ok D v := by
  unfold typeAssertA at h
  split at h
  case h_2 => cases h
  rename_i d hu
  replace h := bool_split h; rcases h with ⟨_, h⟩ | ⟨hd, h⟩
  · cases h
  unfold Instr.typeAssert
  simp only [Sem.run_bind, run_und hC hu, Result.andThen_ok]
  split at h
  · rename_i t u
    simp only [Ok] at hx
    replace h := bool_split h; rcases h with ⟨ht, h⟩ | ⟨ht, h⟩
    · rw [beq_iff] at ht
      subst ht
      cases h
      cases ok with
      | true =>
        refine ⟨?_, ok_bool2 hx true⟩
        simp only [cond_true, den_bool2]
        simp only [den]
        cases d <;> simp [isIfaceD] at hd ⊢
      | false =>
        refine ⟨?_, hx⟩
        simp only [cond_false]
        simp only [den]
        cases d <;> simp [isIfaceD] at hd ⊢
    · have ht' := beq_false ht
      replace h := bool_split h; rcases h with ⟨hok, h⟩ | ⟨_, h⟩
      case inr => cases h
      subst hok
      split at h
      case h_2 => cases h
      rename_i z hz
      cases h
      obtain ⟨hz1, hz2⟩ := zero_of hC hz
      have hcl := closed_den φ D z hz2
      refine ⟨?_, ok_bool2 hcl.2 false⟩
      simp only [den_bool2, hcl.1]
      simp only [den]
      cases d <;> simp [isIfaceD] at hd <;> simp [ht', hz1]
  · replace h := bool_split h; rcases h with ⟨hok, h⟩ | ⟨_, h⟩
    case inr => cases h
    subst hok
    split at h
    case h_2 => cases h
    rename_i z hz
    cases h
    obtain ⟨hz1, hz2⟩ := zero_of hC hz
    have hcl := closed_den φ D z hz2
    refine ⟨?_, ok_bool2 hcl.2 false⟩
    simp only [den_bool2, hcl.1]
    simp only [den]
    cases d <;> simp [isIfaceD] at hd <;> simp [hz1]
  · cases h

theorem max2_sound {x y v : Value} (h : max2A x y = some v) : (Builtin.max2 (den φ x) (den φ y)).run P w = .ok (den φ v) w ∧ Ok D v := by
  unfold max2A at h
  split at h
  · cases h
    rename_i k n k' m
    refine ⟨?_, by simp [Ok]⟩
    simp only [Builtin.max2, den, Sem.run_pure]
    by_cases hlt : n < m <;> simp [hlt]
  · cases h


theorem min2_sound {x y v : Value} (h : min2A x y = some v) : (Builtin.min2 (den φ x) (den φ y)).run P w = .ok (den φ v) w ∧ Ok D v := by
  unfold min2A at h
  split at h
  · cases h
    rename_i k n k' m
    refine ⟨?_, by simp [Ok]⟩
    simp only [Builtin.min2, den, Sem.run_pure]
    by_cases hlt : m < n <;> simp [hlt]
  · cases h

theorem fold_sound {f : Value → Value → Option Value} {g : Value → Value → Sem Value} (hf : ∀ x y v, f x y = some v → (g (den φ x) (den φ y)).run P w = .ok (den φ v) w ∧ Ok D v) :
    ∀ {l : List Value} {x v : Value}, Ok D x → foldA f x l = some v → ((denL φ l).foldlM g (den φ x)).run P w = .ok (den φ v) w ∧ Ok D v
  | [], x, v, hx, h => by simp only [foldA, Option.some.injEq] at h; subst h; exact ⟨by simp [denL], hx⟩
  | y :: r, x, v, hx, h => by
    simp only [foldA] at h
    split at h
    · rename_i z hz
      obtain ⟨h1, h2⟩ := hf x y z hz
      obtain ⟨h3, h4⟩ := fold_sound hf h2 h
      refine ⟨?_, h4⟩
      simp only [denL, List.foldlM_cons, Sem.run_bind, h1, Result.andThen_ok, h3]
    · cases h


theorem op_range (hC : CxOk C P) (hr : Rel C φ D s.heap w) (hn : ¬ D s.next) {t : TypeId} {x : Value} :
    OpOk C φ D s w (rangeA C t x s) ((do pure (.value (← Instr.range t (den φ x))) : Sem Next).run P w) := by
  have new : ∀ (b : Blk) (o : Obj), (∀ (φ' : Phi) (D' : Nat → Prop) (w' : World), (∀ i, D i → D' i) → (∀ i, D i → φ' i = φ i) → w'.heap[w.heap.size]? = some o → BlkIs C φ' D' w' ⟨w.heap.size, 0, 0⟩ b) →
      (Instr.range t (den φ x)).run P w = .ok (.pointer (some ⟨w.heap.size, 0, none⟩)) { w with heap := w.heap.push o } →
      OpOk C φ D s w (.ok (.value (.pointer (some ⟨s.next, 0, none⟩))) (s.new b)) ((do pure (.value (← Instr.range t (den φ x))) : Sem Next).run P w) := by
    intro b o hb hrun
    have hφ : ∀ i, D i → updPhi φ s.next ⟨w.heap.size, 0, 0⟩ i = φ i := fun i hi => by
      unfold updPhi; rw [if_neg]; intro e; subst e; exact hn hi
    obtain ⟨h1, h2⟩ := hr.new (w' := { w with heap := w.heap.push o }) hn rfl rfl rfl rfl (hb (updPhi φ s.next ⟨w.heap.size, 0, 0⟩) (addD D s.next) _ (fun _ h => .inl h) hφ (by simp))
    refine ⟨_, _, _, h1, h2, .inr ⟨rfl, rfl⟩, .value (.pointer (some ⟨w.heap.size, 0, none⟩)), ?_, ok_newPtr _ _, (den_newPtr ..).symm⟩
    simp only [Sem.run_bind, hrun, Result.andThen_ok, Sem.run_pure]
  generalize hg : rangeA C t x s = res
  unfold rangeA at hg
  split at hg
  · rename_i b hu
    subst hg
    refine new _ (.stringIter b 0) (fun φ' D' w' _ _ h => ⟨rfl, h⟩) ?_
    simp only [Instr.range, Sem.run_bind, run_und hC hu, Result.andThen_ok, den, Sem.run_pure, run_newObj]
  · rename_i k el hu
    subst hg
    refine new _ (.mapIter none 0 #[] 0) (fun φ' D' w' _ _ h => ⟨(fun _ h => by cases h), rfl, h⟩) ?_
    simp only [Instr.range, Sem.run_bind, run_und hC hu, Result.andThen_ok, den, Sem.run_pure, run_newObj]
  · rename_i k el m hu
    split at hg
    case h_2 => subst hg; trivial
    rename_i es clock hb
    subst hg
    obtain ⟨ho, h1⟩ := hr.blk m _ hb
    have hDm := hr.dom m _ hb
    refine new _ (.mapIter (some (φ m).block) clock #[] clock) (fun φ' D' w' hD hφ h => ⟨fun i hi => by cases hi; exact hD _ hDm, rfl, by rw [h]; simp [hφ _ hDm]⟩) ?_
    simp only [Instr.range, Sem.run_bind, run_und hC hu, Result.andThen_ok, den, run_getObj h1 (by intro _ _ _ h; cases h), Sem.run_pure, run_newObj]
  · subst hg; trivial

end
end Go.Eng
