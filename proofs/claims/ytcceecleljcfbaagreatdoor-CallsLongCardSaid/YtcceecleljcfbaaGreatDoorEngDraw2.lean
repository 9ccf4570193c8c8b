/- The abstract interpreter: regions that draw their order; bits, edges, places, environments. -/
import Derived.Test.YtcceecleljcfbaaGreatDoorEngDraw1
namespace Go.Eng
set_option linter.unusedVariables false
set_option linter.unusedSimpArgs false

theorem bitB_eq (m i : Nat) : bitB m i = m.testBit i := by
  unfold bitB
  rw [Nat.testBit_eq_decide_div_mod_eq]
  have : Nat.shiftRight m i = m / 2 ^ i := Nat.shiftRight_eq_div_pow m i
  rw [this]
  cases h : Nat.beq (m / 2 ^ i % 2) 1 with
  | true => simp [Nat.eq_of_beq_eq_true h]
  | false => exact (decide_eq_false (Nat.ne_of_beq_eq_false h)).symm

theorem bit_lor (a b j : Nat) : bitB (Nat.lor a b) j = (bitB a j || bitB b j) := by
  simp only [bitB_eq]; exact Nat.testBit_or a b j
theorem bit_land (a b j : Nat) : bitB (Nat.land a b) j = (bitB a j && bitB b j) := by
  simp only [bitB_eq]; exact Nat.testBit_and a b j
theorem bit_one (i j : Nat) : bitB (Nat.shiftLeft 1 i) j = decide (i = j) := by
  simp only [bitB_eq]
  have : Nat.shiftLeft 1 i = 2 ^ i := by rw [show Nat.shiftLeft 1 i = 1 <<< i from rfl, Nat.shiftLeft_eq, Nat.one_mul]
  rw [this, Nat.testBit_two_pow]
theorem bit_zero (j : Nat) : bitB 0 j = false := by simp [bitB_eq]
theorem subB_iff {a b : Nat} : subB a b = true ↔ ∀ j, bitB a j = true → bitB b j = true := by
  unfold subB
  constructor
  · intro h j hj
    have h := Nat.eq_of_beq_eq_true h
    rw [← h, bit_land, Bool.and_eq_true] at hj
    exact hj.2
  · intro h
    have : Nat.land a b = a := by
      refine Nat.eq_of_testBit_eq fun j => ?_
      have h1 := bit_land a b j
      have h2 := h j
      simp only [bitB_eq] at h1 h2
      rw [h1]
      cases ha : a.testBit j with
      | false => rfl
      | true => rw [h2 ha]; rfl
    rw [this]; simp

theorem edgeA_spec : ∀ {l : List Edge} {cls : T Nat} {m0 m : Nat}, edgeA cls l m0 = some m →
    (∀ e ∈ l, Region.binds .any e = true → (cls.get e.on).isSome = true) ∧
    ∀ j, bitB m j = true → bitB m0 j = true ∨ ∃ e ∈ l, Region.binds .any e = true ∧ (j = e.on ∨ ∃ k, cls.get e.on = some k ∧ bitB k j = true)
  | [], cls, m0, m, h => by
    simp only [edgeA, Option.some.injEq] at h; subst h
    exact ⟨fun _ h => (by cases h), fun j hj => .inl hj⟩
  | ⟨on, g⟩ :: r, cls, m0, m, h => by
    have skip : edgeA cls r m0 = some m → Region.binds .any ⟨on, g⟩ = false → _ := fun h hb => by
      obtain ⟨h1, h2⟩ := edgeA_spec h
      exact (⟨fun e he hbe => by
        rcases List.mem_cons.1 he with rfl | he
        · rw [hb] at hbe; cases hbe
        · exact h1 e he hbe, fun j hj => by
        rcases h2 j hj with h | ⟨e, he, h⟩
        · exact .inl h
        · exact .inr ⟨e, List.mem_cons_of_mem _ he, h⟩⟩ : (∀ e ∈ (⟨on, g⟩ :: r : List Edge), Region.binds .any e = true → (cls.get e.on).isSome = true) ∧
            ∀ j, bitB m j = true → bitB m0 j = true ∨ ∃ e ∈ (⟨on, g⟩ :: r : List Edge), Region.binds .any e = true ∧ (j = e.on ∨ ∃ k, cls.get e.on = some k ∧ bitB k j = true))
    have take : (match cls.get on with
        | some k => edgeA cls r (Nat.lor (Nat.lor m0 k) (Nat.shiftLeft 1 on))
        | none => none) = some m → Region.binds .any ⟨on, g⟩ = true → _ := fun h hb => by
      split at h
      case h_2 => cases h
      rename_i k hk
      obtain ⟨h1, h2⟩ := edgeA_spec h
      exact (⟨fun e he hbe => by
        rcases List.mem_cons.1 he with rfl | he
        · simp [hk]
        · exact h1 e he hbe, fun j hj => by
        rcases h2 j hj with h | ⟨e, he, h⟩
        · rw [bit_lor, bit_lor, bit_one, Bool.or_eq_true, Bool.or_eq_true, decide_eq_true_eq] at h
          rcases h with (h | h) | h
          · exact .inl h
          · exact .inr ⟨_, List.mem_cons_self .., hb, .inr ⟨k, hk, h⟩⟩
          · exact .inr ⟨_, List.mem_cons_self .., hb, .inl h.symm⟩
        · exact .inr ⟨e, List.mem_cons_of_mem _ he, h⟩⟩ : (∀ e ∈ (⟨on, g⟩ :: r : List Edge), Region.binds .any e = true → (cls.get e.on).isSome = true) ∧
            ∀ j, bitB m j = true → bitB m0 j = true ∨ ∃ e ∈ (⟨on, g⟩ :: r : List Edge), Region.binds .any e = true ∧ (j = e.on ∨ ∃ k, cls.get e.on = some k ∧ bitB k j = true))
    unfold edgeA at h
    cases g with
    | textOnly row => exact skip h rfl
    | gcOnly row => exact skip h rfl
    | _ => exact take h rfl

/-- The masks as they stand for the edges. -/
def Masks (ops : List Oper) (cls : T Nat) : Prop :=
  ∀ i o, ops[i]? = some o → ∃ m, cls.get i = some m ∧ (∀ e ∈ o.after.toList, Region.binds .any e = true → e.on < i) ∧
    ∀ j, bitB m j = true → ∃ e ∈ o.after.toList, Region.binds .any e = true ∧ (j = e.on ∨ ∃ k, cls.get e.on = some k ∧ bitB k j = true)

theorem closA_spec : ∀ {l : List Oper} {i : Nat} {cls0 cls : T Nat}, closA l i cls0 = some cls → (∀ j, (cls0.get j).isSome = true → j < i) →
    (∀ j k, cls0.get j = some k → cls.get j = some k) ∧
    ∀ x o, l[x]? = some o → ∃ m, cls.get (i + x) = some m ∧ (∀ e ∈ o.after.toList, Region.binds .any e = true → e.on < i + x) ∧
      ∀ j, bitB m j = true → ∃ e ∈ o.after.toList, Region.binds .any e = true ∧ (j = e.on ∨ ∃ k, cls.get e.on = some k ∧ bitB k j = true)
  | [], i, cls0, cls, h, hlt => by
    simp only [closA, Option.some.injEq] at h; subst h
    exact ⟨fun _ _ h => h, fun x o h => by cases h⟩
  | o :: r, i, cls0, cls, h, hlt => by
    simp only [closA] at h
    split at h
    case h_2 => cases h
    rename_i m hm
    obtain ⟨h1, h2⟩ := edgeA_spec hm
    have hnone : ∀ k, cls0.get i ≠ some k := fun k hk => Nat.lt_irrefl i (hlt i (by rw [hk]; rfl))
    obtain ⟨g1, g2⟩ := closA_spec h (fun j hj => by
      rw [T.get_set] at hj
      split at hj
      · omega
      · have := hlt j hj; omega)
    have hsub : ∀ j k, cls0.get j = some k → cls.get j = some k := fun j k hk => by
      refine g1 j k ?_
      rw [T.get_set, if_neg]
      · exact hk
      · intro e; subst e; exact hnone k hk
    refine ⟨hsub, fun x o' hx => ?_⟩
    cases x with
    | zero =>
      simp only [List.getElem?_cons_zero, Option.some.injEq] at hx; subst hx
      refine ⟨m, g1 i m (by rw [T.get_set, if_pos rfl]), fun e he hb => hlt _ (h1 e he hb), fun j hj => ?_⟩
      rcases h2 j hj with h | ⟨e, he, hb, h⟩
      · rw [bit_zero] at h; cases h
      · refine ⟨e, he, hb, h.imp id fun ⟨k, hk, hkj⟩ => ⟨k, hsub _ _ hk, hkj⟩⟩
    | succ x =>
      have := g2 x o' (by simpa using hx)
      rw [show i + (x + 1) = i + 1 + x from by omega]
      exact this

theorem masks_of {ops : List Oper} {cls : T Nat} (h : closA ops 0 .nil = some cls) : Masks ops cls := by
  intro i o ho
  have := (closA_spec h (fun j hj => by rw [T.get_nil] at hj; cases hj)).2 i o ho
  simpa using this

theorem edgeA_has : ∀ {l : List Edge} {cls : T Nat} {m0 m : Nat}, edgeA cls l m0 = some m →
    (∀ j, bitB m0 j = true → bitB m j = true) ∧ ∀ e ∈ l, Region.binds .any e = true → bitB m e.on = true ∧ ∀ k, cls.get e.on = some k → ∀ x, bitB k x = true → bitB m x = true
  | [], cls, m0, m, h => by
    simp only [edgeA, Option.some.injEq] at h; subst h
    exact ⟨fun _ h => h, fun e he => by cases he⟩
  | ⟨on, g⟩ :: r, cls, m0, m, h => by
    have skip : edgeA cls r m0 = some m → Region.binds .any ⟨on, g⟩ = false → _ := fun h hb => by
      obtain ⟨h1, h2⟩ := edgeA_has h
      exact (⟨h1, fun e he hbe => by
        rcases List.mem_cons.1 he with rfl | he
        · rw [hb] at hbe; cases hbe
        · exact h2 e he hbe⟩ : (∀ j, bitB m0 j = true → bitB m j = true) ∧ ∀ e ∈ (⟨on, g⟩ :: r : List Edge), Region.binds .any e = true → bitB m e.on = true ∧ ∀ k, cls.get e.on = some k → ∀ x, bitB k x = true → bitB m x = true)
    have take : (match cls.get on with
        | some k => edgeA cls r (Nat.lor (Nat.lor m0 k) (Nat.shiftLeft 1 on))
        | none => none) = some m → Region.binds .any ⟨on, g⟩ = true → _ := fun h hb => by
      split at h
      case h_2 => cases h
      rename_i k hk
      obtain ⟨h1, h2⟩ := edgeA_has h
      exact (⟨fun j hj => h1 j (by rw [bit_lor, bit_lor, hj]; simp), fun e he hbe => by
        rcases List.mem_cons.1 he with rfl | he
        · refine ⟨h1 _ (by rw [bit_lor, bit_one]; simp), fun k' hk' x hx => ?_⟩
          simp only at hk'
          rw [hk] at hk'; cases hk'
          exact h1 _ (by rw [bit_lor, bit_lor, hx]; simp)
        · exact h2 e he hbe⟩ : (∀ j, bitB m0 j = true → bitB m j = true) ∧ ∀ e ∈ (⟨on, g⟩ :: r : List Edge), Region.binds .any e = true → bitB m e.on = true ∧ ∀ k, cls.get e.on = some k → ∀ x, bitB k x = true → bitB m x = true)
    unfold edgeA at h
    cases g with
    | textOnly row => exact skip h rfl
    | gcOnly row => exact skip h rfl
    | _ => exact take h rfl

theorem closA_has : ∀ {l : List Oper} {i : Nat} {cls0 cls : T Nat}, closA l i cls0 = some cls → (∀ j, (cls0.get j).isSome = true → j < i) →
    (∀ j k, cls0.get j = some k → cls.get j = some k) ∧ ∀ x o, l[x]? = some o → ∃ m, cls.get (i + x) = some m ∧
      ∀ e ∈ o.after.toList, Region.binds .any e = true → e.on < i + x ∧ bitB m e.on = true ∧ ∀ k, cls.get e.on = some k → ∀ y, bitB k y = true → bitB m y = true
  | [], i, cls0, cls, h, hlt => by
    simp only [closA, Option.some.injEq] at h; subst h
    exact ⟨fun _ _ h => h, fun x o h => by cases h⟩
  | o :: r, i, cls0, cls, h, hlt => by
    simp only [closA] at h
    split at h
    case h_2 => cases h
    rename_i m hm
    obtain ⟨h1, _⟩ := edgeA_spec hm
    obtain ⟨_, h2⟩ := edgeA_has hm
    have hnone : ∀ k, cls0.get i ≠ some k := fun k hk => Nat.lt_irrefl i (hlt i (by rw [hk]; rfl))
    obtain ⟨g1, g2⟩ := closA_has h (fun j hj => by
      rw [T.get_set] at hj
      split at hj
      · omega
      · have := hlt j hj; omega)
    have hsub : ∀ j k, cls0.get j = some k → cls.get j = some k := fun j k hk => by
      refine g1 j k ?_
      rw [T.get_set, if_neg]
      · exact hk
      · intro e; subst e; exact hnone k hk
    refine ⟨hsub, fun x o' hx => ?_⟩
    cases x with
    | zero =>
      simp only [List.getElem?_cons_zero, Option.some.injEq] at hx; subst hx
      refine ⟨m, g1 i m (by rw [T.get_set, if_pos rfl]), fun e he hb => ?_⟩
      have hs := h1 e he hb
      obtain ⟨b1, b2⟩ := h2 e he hb
      refine ⟨hlt _ hs, b1, fun k hk y hy => ?_⟩
      cases hc : cls0.get e.on with
      | none => rw [hc] at hs; cases hs
      | some k0 =>
        have := hsub _ _ hc
        rw [this, Option.some.injEq] at hk
        exact b2 k (by rw [hc, hk]) y hy
    | succ x =>
      have := g2 x o' (by simpa using hx)
      rw [show i + (x + 1) = i + 1 + x from by omega]
      exact this

theorem trans_of {ops : List Oper} {cls : T Nat} (h : closA ops 0 .nil = some cls) : ∀ i o m, ops[i]? = some o → cls.get i = some m → ∀ j, bitB m j = true → ∀ mj, cls.get j = some mj → ∀ x, bitB mj x = true → bitB m x = true := by
  have hm := masks_of h
  have hh := (closA_has h (fun j hj => by rw [T.get_nil] at hj; cases hj)).2
  have key : ∀ n i o m, i < n → ops[i]? = some o → cls.get i = some m → ∀ j, bitB m j = true → ∀ mj, cls.get j = some mj → ∀ x, bitB mj x = true → bitB m x = true := by
    intro n
    induction n with
    | zero => intro i o m hi; omega
    | succ n ih =>
      intro i o m hi ho hc j hj mj hmj x hx
      obtain ⟨m1, c1, c2, c3⟩ := hm i o ho
      rw [hc] at c1; cases c1
      obtain ⟨m2, d1, d2⟩ := hh i o ho
      rw [Nat.zero_add, hc] at d1; cases d1
      obtain ⟨e, he, hb, hje⟩ := c3 j hj
      obtain ⟨_, d3, d4⟩ := d2 e he hb
      have hlt := c2 e he hb
      rcases hje with rfl | ⟨k, hk, hkj⟩
      · exact d4 mj hmj x hx
      · have hlen : e.on < ops.length := by have := (List.getElem?_eq_some_iff.1 ho).1; omega
        exact d4 k hk x (ih e.on _ k (by omega) (List.getElem?_eq_getElem hlen) hk j hkj mj hmj x hx)
  intro i o m ho hc
  exact key (i + 1) i o m (Nat.lt_succ_self _) ho hc

/-- All edges of the operations in S lead into S. -/
def Closed (ops : List Oper) (S : Nat → Prop) : Prop := ∀ j o, S j → ops[j]? = some o → ∀ e ∈ o.after.toList, Region.binds .any e = true → S e.on

theorem mask_sub {ops : List Oper} {cls : T Nat} (hm : Masks ops cls) {S : Nat → Prop} (hS : Closed ops S) (hlt : ∀ j, S j → j < ops.length) :
    ∀ (n i : Nat) (o : Oper) (m : Nat), i < n → ops[i]? = some o → cls.get i = some m → (∀ e ∈ o.after.toList, Region.binds .any e = true → S e.on) → ∀ j, bitB m j = true → S j
  | 0, i, o, m, hn, _, _, _, _, _ => absurd hn (Nat.not_lt_zero _)
  | n + 1, i, o, m, hn, ho, hc, he, j, hj => by
    obtain ⟨m', h1, h2, h3⟩ := hm i o ho
    rw [hc, Option.some.injEq] at h1; subst h1
    obtain ⟨e, hel, hb, rfl | ⟨k, hk, hkj⟩⟩ := h3 j hj
    · exact he e hel hb
    · have hSe := he e hel hb
      have hl := hlt _ hSe
      have ho' : ops[e.on]? = some (ops[e.on]'hl) := List.getElem?_eq_getElem hl
      exact mask_sub hm hS hlt n e.on _ k (by have := h2 e hel hb; omega) ho' hk (fun e' he' hb' => hS _ _ hSe ho' e' he' hb') j hkj

theorem dstA_spec : ∀ {l : List Oper} {i : Nat} {t0 t : T Nat}, dstA l i t0 = some t →
    (∀ d j, t0.get d = some j → t.get d = some j) ∧ (∀ x o d, l[x]? = some o → o.dst = some d → t.get d = some (i + x)) ∧
    ∀ d j, t.get d = some j → t0.get d = some j ∨ ∃ x o, j = i + x ∧ l[x]? = some o ∧ o.dst = some d
  | [], i, t0, t, h => by
    simp only [dstA, Option.some.injEq] at h; subst h
    exact ⟨fun _ _ h => h, fun _ _ _ h => (by cases h), fun _ _ h => .inl h⟩
  | o :: r, i, t0, t, h => by
    simp only [dstA] at h
    split at h
    · rename_i hd
      obtain ⟨h1, h2, h3⟩ := dstA_spec h
      refine ⟨h1, fun x o' d hx ho' => ?_, fun d j hj => ?_⟩
      · cases x with
        | zero => simp only [List.getElem?_cons_zero, Option.some.injEq] at hx; subst hx; rw [hd] at ho'; cases ho'
        | succ x => have := h2 x o' d (by simpa using hx) ho'; rw [show i + (x + 1) = i + 1 + x from by omega]; exact this
      · rcases h3 d j hj with h | ⟨x, o', rfl, hx, ho'⟩
        · exact .inl h
        · exact .inr ⟨x + 1, o', by omega, by simpa using hx, ho'⟩
    · rename_i d hd
      split at h
      · cases h
      rename_i hnone
      obtain ⟨h1, h2, h3⟩ := dstA_spec h
      have hsame : t.get d = some i := h1 d i (by rw [T.get_set, if_pos rfl])
      refine ⟨fun d' j hj => h1 d' j ?_, fun x o' d' hx ho' => ?_, fun d' j hj => ?_⟩
      · rw [T.get_set, if_neg]
        · exact hj
        · intro e; subst e; rw [hnone] at hj; cases hj
      · cases x with
        | zero => simp only [List.getElem?_cons_zero, Option.some.injEq] at hx; subst hx; rw [hd] at ho'; cases ho'; exact hsame
        | succ x => have := h2 x o' d' (by simpa using hx) ho'; rw [show i + (x + 1) = i + 1 + x from by omega]; exact this
      · rcases h3 d' j hj with h | ⟨x, o', rfl, hx, ho'⟩
        · rw [T.get_set] at h
          split at h
          · rename_i e; cases h; subst e; exact .inr ⟨0, o, rfl, rfl, hd⟩
          · exact .inl h
        · exact .inr ⟨x + 1, o', by omega, by simpa using hx, ho'⟩

/-- Which operation sets which place. -/
def Places (ops : List Oper) (dm : T Nat) : Prop :=
  (∀ i o d, ops[i]? = some o → o.dst = some d → dm.get d = some i) ∧ ∀ d j, dm.get d = some j → ∃ o, ops[j]? = some o ∧ o.dst = some d

theorem places_of {ops : List Oper} {dm : T Nat} (h : dstA ops 0 .nil = some dm) : Places ops dm := by
  obtain ⟨_, h2, h3⟩ := dstA_spec h
  refine ⟨fun i o d hi ho => by simpa using h2 i o d hi ho, fun d j hj => ?_⟩
  rcases h3 d j hj with h | ⟨x, o, rfl, hx, ho⟩
  · rw [T.get_nil] at h; cases h
  · exact ⟨o, by simpa using hx, ho⟩

/-- What an environment of an operation may hold. -/
def Looks (base : T Value) (dm cls : T Nat) (i m : Nat) (V : T Value) (M : T Info) (t : T Value) : Prop :=
  ∀ d v, t.get d = some v → (dm.get d = none ∧ base.get d = some v) ∨ (∃ j, dm.get d = some j ∧ bitB m j = true ∧ knownA V M j = some v) ∨
    (∃ j mj, dm.get d = some j ∧ cls.get j = some mj ∧ bitB mj i = true ∧ base.get d = some v)

theorem lookA_spec {base : T Value} {dm cls : T Nat} {i m : Nat} {V : T Value} {M : T Info} {d : Tmp} {t : T Value} (h : Looks base dm cls i m V M t) : Looks base dm cls i m V M (lookA base dm cls i m V M d t) := by
  have set : ∀ v, (dm.get d = none ∧ base.get d = some v) ∨ (∃ j, dm.get d = some j ∧ bitB m j = true ∧ knownA V M j = some v) ∨
      (∃ j mj, dm.get d = some j ∧ cls.get j = some mj ∧ bitB mj i = true ∧ base.get d = some v) → Looks base dm cls i m V M (t.set d v) := by
    intro v hv d' v' h'
    rw [T.get_set] at h'
    split at h'
    · rename_i e; cases h'; subst e; exact hv
    · exact h d' v' h'
  unfold lookA
  split
  · rename_i hd
    split
    · exact set _ (.inl ⟨hd, by assumption⟩)
    · exact h
  · rename_i j hd
    cases hb : bitB m j with
    | true =>
      simp only [cond_true]
      split
      · exact set _ (.inr (.inl ⟨j, hd, hb, by assumption⟩))
      · exact h
    | false =>
      simp only [cond_false]
      split
      · rename_i mj hmj
        cases hb2 : bitB mj i with
        | false => exact h
        | true =>
          simp only [cond_true]
          split
          · exact set _ (.inr (.inr ⟨j, mj, hd, hmj, hb2, by assumption⟩))
          · exact h
      · exact h

theorem looksA_spec {base : T Value} {dm cls : T Nat} {i m : Nat} {V : T Value} {M : T Info} : ∀ {l : List Operand} {t : T Value}, Looks base dm cls i m V M t → Looks base dm cls i m V M (looksA base dm cls i m V M l t)
  | [], t, h => h
  | .tmp d :: r, t, h => looksA_spec (l := r) (lookA_spec h)
  | .const _ :: r, t, h => looksA_spec (l := r) h
  | .global _ :: r, t, h => looksA_spec (l := r) h
  | .func _ :: r, t, h => looksA_spec (l := r) h

theorem env_spec (g : Rg) (i m : Nat) (V : T Value) (M : T Info) (o : Oper) :
    Looks g.base.tmps g.dm g.cls i m V M (g.env i m V M o).tmps ∧ (g.env i m V M o).n = g.base.n ∧ (g.env i m V M o).defers = g.base.defers := by
  refine ⟨?_, rfl, rfl⟩
  have h0 : Looks g.base.tmps g.dm g.cls i m V M (looksA g.base.tmps g.dm g.cls i m V M o.op.operands.toList .nil) := looksA_spec fun d v h => by rw [T.get_nil] at h; cases h
  simp only [Rg.env, envA]
  split
  · exact h0
  · split
    · exact h0
    · split
      · exact h0
      · exact lookA_spec h0

end Go.Eng
