/- The abstract interpreter: comparisons, conversions, slices, appends. -/
import Derived.Test.YtbjdgoahlflolaaGreatEngOps4
namespace Go.Eng
set_option linter.unusedVariables false
set_option linter.unusedSimpArgs false

section
variable {C : Cx} {P : Program} {φ : Phi} {D : Nat → Prop} {s : St} {w : World} {e : E} {a : Act}

theorem equal_unfold (t : TypeId) (x y : Value) : Op.equal t x y = Op.equalIn (9999 + 1) t x y := rfl

theorem eqA_sound (hC : CxOk C P) {t : TypeId} {d : TypeDesc} {u v : Value} {b : Bool} (hd : C.und t = some d) (h : eqA d u v = some b) :
    (Op.equal t (den φ u) (den φ v)).run P w = .ok b w := by
  rw [equal_unfold]
  unfold Op.equalIn
  rw [Sem.run_bind, run_und hC hd, Result.andThen_ok]
  unfold eqA at h
  split at h
  · split at h
    · cases h; simp [den]
    · cases h
  · split at h
    · rename_i b'; cases h; cases b' <;> simp [den]
    · cases h; simp [den]
    · cases h
  · split at h
    · rename_i b' _ _; cases h; cases b' <;> simp [den]
    · cases h; simp [den]
    · cases h
  · split at h
    · rename_i b'; cases h; cases b' <;> simp [den]
    · cases h; simp [den]
    · cases h
  · split at h
    · cases h; simp [den]
    · cases h; simp [den]
    · cases h; simp [den]
    · cases h
  · split at h
    · cases h; simp [den]
    · cases h; simp [den]
    · cases h; simp [den]
    · cases h
  · cases h

theorem eqA_not_agg {d : TypeDesc} {u v : Value} {b : Bool} (h : eqA d u v = some b) : ∀ cs, u ≠ .agg cs := by
  rintro cs rfl
  unfold eqA at h
  cases d <;> simp at h

theorem eqGuard_match {t : TypeId} {x y : Operand} {u v : Value} (h1 : (bothNil u v && !(isCst x || isCst y)) = false) (h2 : ∀ cs, u ≠ .agg cs) :
    (eqGuard .eql t x y (den φ u) (den φ v)).run P w = .ok () w ∧ (eqGuard .neq t x y (den φ u) (den φ v)).run P w = .ok () w := by
  unfold eqGuard
  simp only [Bool.not_true, Bool.false_eq_true, if_false, and_self]
  cases u with
  | agg cs => exact absurd rfl (h2 cs)
  | nilIface =>
    cases v with
    | nilIface =>
      simp only [bothNil, Bool.true_and, Bool.not_eq_false'] at h1
      simp only [den]
      cases x <;> cases y <;> simp [isCst] at h1 ⊢
    | pointer q => cases q <;> simp [den]
    | slice q l c => cases q <;> simp [den]
    | map q => cases q <;> simp [den]
    | chan q => cases q <;> simp [den]
    | _ => simp [den]
  | pointer q => cases q <;> simp [den]
  | slice q l c => cases q <;> simp [den]
  | map q => cases q <;> simp [den]
  | chan q => cases q <;> simp [den]
  | _ => simp [den]

theorem eqGuard_run {op : BinOp} {t : TypeId} {x y : Operand} {u v : Value} (h1 : (bothNil u v && !(isCst x || isCst y)) = false) (h2 : ∀ cs, u ≠ .agg cs) :
    (eqGuard op t x y (den φ u) (den φ v)).run P w = .ok () w := by
  have hm := eqGuard_match (P := P) (φ := φ) (w := w) (t := t) h1 h2
  cases op <;> first
    | exact hm.1
    | exact hm.2
    | (unfold eqGuard; simp)

theorem binOp_eql (t : TypeId) {u v : Value} (h1 : ∀ k n, u ≠ .int k n ∨ ∀ k' n', v ≠ .int k' n') (h2 : ∀ b, u ≠ .string b ∨ ∀ b', v ≠ .string b') (h3 : ∀ k n, u ≠ .float k n) (h4 : ∀ k n m, u ≠ .complex k n m) :
    binOp .eql t u v = (do pure (.bool (← Op.equal t u v))) ∧ binOp .neq t u v = (do pure (.bool (!(← Op.equal t u v)))) := by
  cases u with
  | int k n =>
    cases v with
    | int k' n' =>
      rcases h1 k n with h | h
      · exact absurd rfl h
      · exact absurd rfl (h _ _)
    | _ => exact ⟨rfl, rfl⟩
  | string b =>
    cases v with
    | string b' =>
      rcases h2 b with h | h
      · exact absurd rfl h
      · exact absurd rfl (h _)
    | _ => exact ⟨rfl, rfl⟩
  | float k n => exact absurd rfl (h3 _ _)
  | complex k n m => exact absurd rfl (h4 _ _ _)
  | _ => exact ⟨rfl, rfl⟩

theorem eqA_shape {d : TypeDesc} {u v : Value} {b : Bool} (h : eqA d u v = some b) :
    (∀ k n, den φ u ≠ .int k n) ∧ (∀ b, den φ u ≠ .string b) ∧ (∀ k n, den φ u ≠ .float k n) ∧ (∀ k n m, den φ u ≠ .complex k n m) := by
  unfold eqA at h
  split at h <;> (try split at h) <;> first
    | (cases h; done)
    | (refine ⟨?_, ?_, ?_, ?_⟩ <;> intros <;> simp [den])

theorem binA_sound (hC : CxOk C P) {op : BinOp} {t : TypeId} {x y : Operand} {u v r : Value} (h : binA C op t (isCst x || isCst y) u v = some r) (hu : Ok D u) (hv : Ok D v) :
    ((do eqGuard op t x y (den φ u) (den φ v); binOp op t (den φ u) (den φ v) : Sem Value)).run P w = .ok (den φ r) w ∧ Ok D r := by
  unfold binA at h
  split at h
  · rename_i k i k' j
    have hg : (eqGuard op t x y (den φ (.int k i)) (den φ (.int k' j))).run P w = .ok () w := eqGuard_run (by simp [bothNil]) (by simp)
    rw [Sem.run_bind, hg, Result.andThen_ok]
    simp only [den]
    split at h
    · exact shiftBin_sound (.inl rfl) h t
    · exact shiftBin_sound (.inr rfl) h t
    · rename_i hn1 hn2
      by_cases hk : k = k'
      · subst hk
        simp only [decide_true, cond_true] at h
        exact intBin_sound ⟨fun e => hn1 e, fun e => hn2 e⟩ h t
      · simp [hk] at h
  · rename_i b b'
    have hg : (eqGuard op t x y (den φ (.string b)) (den φ (.string b'))).run P w = .ok () w := eqGuard_run (by simp [bothNil]) (by simp)
    rw [Sem.run_bind, hg, Result.andThen_ok]
    simp only [den]
    exact strBin_sound h t
  · rename_i hn1 hn2
    have key : ∀ b, eqB C t (isCst x || isCst y) u v = some b → (∀ op, (eqGuard op t x y (den φ u) (den φ v)).run P w = .ok () w) ∧ (Op.equal t (den φ u) (den φ v)).run P w = .ok b w ∧
        binOp .eql t (den φ u) (den φ v) = (do pure (.bool (← Op.equal t (den φ u) (den φ v)))) ∧ binOp .neq t (den φ u) (den φ v) = (do pure (.bool (!(← Op.equal t (den φ u) (den φ v))))) := by
      intro b hb
      unfold eqB at hb
      cases hc : (bothNil u v && !(isCst x || isCst y)) with
      | true => rw [hc] at hb; cases hb
      | false =>
        rw [hc] at hb
        simp only [cond_false] at hb
        split at hb
        · rename_i d hd
          have hs := eqA_shape (φ := φ) hb
          refine ⟨fun op => eqGuard_run hc (eqA_not_agg hb), eqA_sound hC hd hb, ?_⟩
          exact binOp_eql t (fun k n => .inl (hs.1 k n)) (fun b => .inl (hs.2.1 b)) hs.2.2.1 hs.2.2.2
        · cases hb
    split at h
    · split at h
      · rename_i b hb
        cases h
        obtain ⟨k1, k2, k3, k4⟩ := key b hb
        rw [Sem.run_bind, k1, Result.andThen_ok, k3]
        simp [k2, den, Ok]
      · cases h
    · split at h
      · rename_i b hb
        cases h
        obtain ⟨k1, k2, k3, k4⟩ := key b hb
        rw [Sem.run_bind, k1, Result.andThen_ok, k4]
        simp [k2, den, Ok]
      · cases h
    · cases h

theorem unA_sound {op : UnOp} {u r : Value} (h : unA op u = some r) : (Op.unary op (den φ u)).run P w = .ok (den φ r) w ∧ Ok D r := by
  unfold unA at h
  split at h
  · cases h; simp [Op.unary, den, Ok]
  · cases h; simp [Op.unary, Op.intArith, den, Ok]
  · cases h
    refine ⟨?_, by simp [Ok]⟩
    simp only [Op.unary, den, Op.intBits]
    rfl
  · cases h

theorem extract_eq (b : ByteArray) (l h : Nat) : b.extract l h = ⟨⟨(b.data.toList.drop l).take (h - l)⟩⟩ := by
  apply ByteArray.ext
  rw [ByteArray.data_extract]
  apply Array.toList_inj.1
  simp [List.extract_eq_take_drop]

theorem boundA_none {d n : Nat} (h : boundA none d = some n) : n = d := by simp [boundA] at h; exact h.symm
theorem boundA_some {v : Value} {d n : Nat} (h : boundA (some v) d = some n) : ∃ k, v = .int k (.ofNat n) := by
  unfold boundA at h
  split at h
  · rename_i heq; cases heq
  · rename_i k m heq
    cases h
    simp only [Option.some.injEq] at heq
    exact ⟨k, heq⟩
  · cases h

theorem sliceBound_run {k : IntKind} {n y : Nat} {code : BoundsCode} (h : n ≤ y) (w : World) : (Instr.sliceBound (.int k (n : Int)) y code).run P w = .ok n w := by
  simp only [Instr.sliceBound, asIntOf, Sem.run_bind, Sem.run_pure, Result.andThen_ok]
  rw [if_pos (by simp; omega)]
  simp

theorem sliceBounds_run {isS : Bool} {len cap : Nat} {lo hi : Option Value} {l h : Nat} (h1 : boundA hi len = some h) (h2 : boundA lo 0 = some l) (hle : h ≤ cap) (hl : l ≤ h) :
    (Instr.sliceBounds isS len cap (lo.map (den φ)) (hi.map (den φ)) none).run P w = .ok (l, h, cap) w := by
  simp only [Instr.sliceBounds]
  cases hi with
  | none =>
    have := boundA_none h1; subst this
    cases lo with
    | none => have := boundA_none h2; subst this; simp
    | some v =>
      obtain ⟨k, rfl⟩ := boundA_some h2
      simp [den, sliceBound_run hl]
  | some u =>
    obtain ⟨k, rfl⟩ := boundA_some h1
    cases lo with
    | none => have := boundA_none h2; subst this; simp [den, sliceBound_run hle]
    | some v =>
      obtain ⟨k', rfl⟩ := boundA_some h2
      simp [den, sliceBound_run hle, sliceBound_run hl]

theorem sliceBounds3_run {isS : Bool} {len cap : Nat} {lo hi : Option Value} {mv : Value} {l h m : Nat} (h0 : boundA (some mv) 0 = some m) (h1 : boundA hi 0 = some h) (hs : hi.isSome = true) (h2 : boundA lo 0 = some l) (hm : m ≤ cap) (hle : h ≤ m) (hl : l ≤ h) :
    (Instr.sliceBounds isS len cap (lo.map (den φ)) (hi.map (den φ)) (some (den φ mv))).run P w = .ok (l, h, m) w := by
  obtain ⟨k0, rfl⟩ := boundA_some h0
  cases hi with
  | none => cases hs
  | some u =>
    obtain ⟨k, rfl⟩ := boundA_some h1
    simp only [Instr.sliceBounds]
    cases lo with
    | none => have := boundA_none h2; subst this; simp [den, sliceBound_run hle, sliceBound_run hm]
    | some v =>
      obtain ⟨k', rfl⟩ := boundA_some h2
      simp [den, sliceBound_run hle, sliceBound_run hl, sliceBound_run hm]

end
end Go.Eng
