/- The abstract interpreter: comparisons, conversions, slices, appends. -/
import Derived.Test.YtcceecleljcfbaaGreatDoorEngOps4
import Derived.Laws.StructEq
namespace Go.Eng
set_option linter.unusedVariables false
set_option linter.unusedSimpArgs false

section
variable {C : Cx} {P : Program} {φ : Phi} {D : Nat → Prop} {s : St} {w : World} {e : E} {a : Act}

theorem equal_unfold (t : TypeId) (x y : Value) : Op.equal t x y = Op.equalIn (9999 + 1) t x y := rfl

theorem eqA_sound (hC : CxOk C P) {t : TypeId} {d : TypeDesc} {u v : Value} {b : Bool} (hd : C.und t = some d) (h : eqA d u v = some b) (m : Nat) :
    (Op.equalIn (m + 1) t (den φ u) (den φ v)).run P w = .ok b w := by
  unfold Op.equalIn
  rw [Sem.run_bind, run_und hC hd, Result.andThen_ok]
  unfold eqA at h
  split at h
  · split at h
    · cases h; simp [den]
    · cases h
  · split at h
    · rename_i b'; cases h; cases b' <;> simp [den]
    · cases h; simp [den]
    · cases h
  · split at h
    · rename_i b' _ _; cases h; cases b' <;> simp [den]
    · cases h; simp [den]
    · cases h
  · split at h
    · rename_i b'; cases h; cases b' <;> simp [den]
    · cases h; simp [den]
    · cases h
  · split at h
    · cases h; simp [den]
    · cases h; simp [den]
    · cases h; simp [den]
    · cases h
  · split at h
    · cases h; simp [den]
    · cases h; simp [den]
    · cases h; simp [den]
    · cases h
  · cases h

theorem eqA_not_agg {d : TypeDesc} {u v : Value} {b : Bool} (h : eqA d u v = some b) : ∀ cs, u ≠ .agg cs := by
  rintro cs rfl
  unfold eqA at h
  cases d <;> simp at h

theorem eqGuard_match {t : TypeId} {x y : Operand} {u v : Value} (h1 : (bothNil u v && !(isCst x || isCst y)) = false) (h2 : ∀ cs, u ≠ .agg cs) :
    (eqGuard .eql t x y (den φ u) (den φ v)).run P w = .ok () w ∧ (eqGuard .neq t x y (den φ u) (den φ v)).run P w = .ok () w := by
  unfold eqGuard
  simp only [Bool.not_true, Bool.false_eq_true, if_false, and_self]
  cases u with
  | agg cs => exact absurd rfl (h2 cs)
  | nilIface =>
    cases v with
    | nilIface =>
      simp only [bothNil, Bool.true_and, Bool.not_eq_false'] at h1
      simp only [den]
      cases x <;> cases y <;> simp [isCst] at h1 ⊢
    | pointer q => cases q <;> simp [den]
    | slice q l c => cases q <;> simp [den]
    | map q => cases q <;> simp [den]
    | chan q => cases q <;> simp [den]
    | _ => simp [den]
  | pointer q => cases q <;> simp [den]
  | slice q l c => cases q <;> simp [den]
  | map q => cases q <;> simp [den]
  | chan q => cases q <;> simp [den]
  | _ => simp [den]

theorem eqGuard_run {op : BinOp} {t : TypeId} {x y : Operand} {u v : Value} (h1 : (bothNil u v && !(isCst x || isCst y)) = false) (h2 : ∀ cs, u ≠ .agg cs) :
    (eqGuard op t x y (den φ u) (den φ v)).run P w = .ok () w := by
  have hm := eqGuard_match (P := P) (φ := φ) (w := w) (t := t) h1 h2
  cases op <;> first
    | exact hm.1
    | exact hm.2
    | (unfold eqGuard; simp)

theorem binOp_eql (t : TypeId) {u v : Value} (h1 : ∀ k n, u ≠ .int k n ∨ ∀ k' n', v ≠ .int k' n') (h2 : ∀ b, u ≠ .string b ∨ ∀ b', v ≠ .string b') (h3 : ∀ k n, u ≠ .float k n) (h4 : ∀ k n m, u ≠ .complex k n m) :
    binOp .eql t u v = (do pure (.bool (← Op.equal t u v))) ∧ binOp .neq t u v = (do pure (.bool (!(← Op.equal t u v)))) := by
  cases u with
  | int k n =>
    cases v with
    | int k' n' =>
      rcases h1 k n with h | h
      · exact absurd rfl h
      · exact absurd rfl (h _ _)
    | _ => exact ⟨rfl, rfl⟩
  | string b =>
    cases v with
    | string b' =>
      rcases h2 b with h | h
      · exact absurd rfl h
      · exact absurd rfl (h _)
    | _ => exact ⟨rfl, rfl⟩
  | float k n => exact absurd rfl (h3 _ _)
  | complex k n m => exact absurd rfl (h4 _ _ _)
  | _ => exact ⟨rfl, rfl⟩

theorem eqA_shape {d : TypeDesc} {u v : Value} {b : Bool} (h : eqA d u v = some b) :
    (∀ k n, den φ u ≠ .int k n) ∧ (∀ b, den φ u ≠ .string b) ∧ (∀ k n, den φ u ≠ .float k n) ∧ (∀ k n m, den φ u ≠ .complex k n m) := by
  unfold eqA at h
  split at h <;> (try split at h) <;> first
    | (cases h; done)
    | (refine ⟨?_, ?_, ?_, ?_⟩ <;> intros <;> simp [den])

theorem eqFieldsA_sound (hC : CxOk C P) {eq : TypeId → Value → Value → Option Bool} {m : Nat}
    (heq : ∀ t u v b, eq t u v = some b → Ok D u → Ok D v → (Op.equalIn m t (den φ u) (den φ v)).run P w = .ok b w) {xs ys : List Value} (hx : OkL D xs) (hy : OkL D ys) :
    ∀ {fs : List Field} {b : Bool}, eqFieldsA C eq xs ys fs = some b → (Op.eqFields m (denL φ xs).toArray (denL φ ys).toArray fs).run P w = .ok b w
  | [], b, h => by
    simp only [eqFieldsA, Option.some.injEq] at h; subst h
    simp [Op.eqFields]
  | f :: r, b, h => by
    simp only [eqFieldsA] at h
    cases hn : f.name == "_" with
    | true => rw [hn] at h; cases h
    | false =>
      rw [hn] at h
      simp only [cond_false] at h
      split at h
      case h_2 => cases h
      rename_i a c ha hc
      obtain ⟨a1, a2⟩ := part_sound (φ := φ) hC ha hx w
      obtain ⟨c1, c2⟩ := part_sound (φ := φ) hC hc hy w
      have hn' : f.name ≠ "_" := by simpa using hn
      simp only [Op.eqFields]
      rw [if_pos hn']
      simp only [Sem.run_bind, a1, c1, Result.andThen_ok]
      split at h
      · rename_i hb
        rw [heq _ _ _ _ hb a2 c2]
        simp only [Result.andThen_ok, Bool.not_true, Bool.false_eq_true, if_false]
        exact eqFieldsA_sound hC heq hx hy h
      · rename_i hb
        cases h
        rw [heq _ _ _ _ hb a2 c2]
        simp
      · cases h

theorem eqV_succ (n : Nat) (t : TypeId) (x y : Value) : eqV C (n + 1) t x y = match C.und t with
    | none => none
    | some d => match x, y with
      | .agg xs, .agg ys => match d with
        | .struct fs => match C.flat.get t with
          | some _ => eqFieldsA C (eqV C n) xs.toList ys.toList fs.toList
          | none => none
        | _ => none
      | .int k a, .int k' b => match d with
        | .int _ => bif decide (k = k') then some (decide (a = b)) else none
        | _ => none
      | .string a, .string b => match d with
        | .string => some (eqBytes a.data.toList b.data.toList)
        | _ => none
      | .pointer (some ⟨a, o, none⟩), .pointer (some ⟨a', o', none⟩) => match d with
        | .pointer elem => match C.size elem with
          | some (_ + 1) => bif Nat.beq a a' then some (Nat.beq o o') else none
          | _ => none
        | _ => none
      | x, y => eqA d x y := rfl

theorem eqV_sound (hC : CxOk C P) : ∀ (n m : Nat), n ≤ m → ∀ (t : TypeId) (u v : Value) (b : Bool), eqV C n t u v = some b → Ok D u → Ok D v → (Op.equalIn m t (den φ u) (den φ v)).run P w = .ok b w
  | 0, m, _, t, u, v, b, h, _, _ => by cases h
  | n + 1, 0, hm, t, u, v, b, h, _, _ => by omega
  | n + 1, m + 1, hm, t, u, v, b, h, hu, hv => by
    rw [eqV_succ] at h
    split at h
    · cases h
    rename_i d hd
    split at h
    · rename_i xs ys
      split at h
      case h_2 => cases h
      rename_i fs
      split at h
      case h_2 => cases h
      rename_i hfl
      have hund := und_of hC hd
      have hfo : P.fieldsOf t = fs := by simp [Program.fieldsOf, hund]
      obtain ⟨h1, _⟩ := hC.flat t (by rw [hfl]; rfl)
      have hux : OkL D xs.toList := by obtain ⟨xs⟩ := xs; simpa only [Ok, OkA] using hu
      have hvy : OkL D ys.toList := by obtain ⟨ys⟩ := ys; simpa only [Ok, OkA] using hv
      have e1 : den φ (.agg xs) = .agg (denL φ xs.toList).toArray := by obtain ⟨xs⟩ := xs; simp [den, denA]
      have e2 : den φ (.agg ys) = .agg (denL φ ys.toList).toArray := by obtain ⟨ys⟩ := ys; simp [den, denA]
      rw [e1, e2, run_equalIn_struct w m t _ _ (by rw [hund, hfo]) h1, hfo]
      exact eqFieldsA_sound hC (fun t u v b h hu hv => eqV_sound hC n m (by omega) t u v b h hu hv) hux hvy h
    · rename_i k a k' c
      split at h
      case h_2 => cases h
      rename_i k0
      by_cases hk : k = k'
      case neg => simp [hk] at h
      subst hk
      simp only [decide_true, cond_true, Option.some.injEq] at h
      subst h
      simp only [den]
      rw [run_equalIn_int w m t k k0 a c (und_of hC hd)]
      congr 1
    · rename_i a c
      split at h
      case h_2 => cases h
      cases h
      simp only [den]
      rw [run_equalIn_string w m t a c (und_of hC hd), eqBytes_eq, ByteArray.toList_eq, ByteArray.toList_eq]
    · rename_i a o a' o'
      split at h
      case h_2 => cases h
      rename_i elem
      split at h
      case h_2 => cases h
      rename_i k hsz
      cases hb : Nat.beq a a' with
      | false => rw [hb] at h; cases h
      | true =>
        rw [hb] at h
        simp only [cond_true, Option.some.injEq] at h
        have ha := Nat.eq_of_beq_eq_true hb
        subst ha
        simp only [den]
        have hrun : (sameAddr ⟨(φ a).block, (φ a).off + o, none⟩ ⟨(φ a).block, (φ a).off + o', none⟩).run P w = .ok b w := by
          simp only [sameAddr, beq_self_eq_true, if_true, Sem.run_pure]
          rw [← h]
          congr 1
          cases hoo : Nat.beq o o' with
          | true => rw [Nat.eq_of_beq_eq_true hoo]; simp
          | false =>
            have := Nat.ne_of_beq_eq_false hoo
            rw [beq_eq_false_iff_ne]
            intro e
            simp only [Addr.mk.injEq] at e
            omega
        unfold Op.equalIn
        simp only [Sem.run_bind, run_und hC hd, Result.andThen_ok, run_size hC hsz]
        simpa using hrun
    · exact eqA_sound hC hd h m

theorem binA_sound (hC : CxOk C P) {op : BinOp} {t : TypeId} {x y : Operand} {u v r : Value} (h : binA C op t (isCst x || isCst y) u v = some r) (hu : Ok D u) (hv : Ok D v) :
    ((do eqGuard op t x y (den φ u) (den φ v); binOp op t (den φ u) (den φ v) : Sem Value)).run P w = .ok (den φ r) w ∧ Ok D r := by
  unfold binA at h
  split at h
  · rename_i k i k' j
    have hg : (eqGuard op t x y (den φ (.int k i)) (den φ (.int k' j))).run P w = .ok () w := eqGuard_run (by simp [bothNil]) (by simp)
    rw [Sem.run_bind, hg, Result.andThen_ok]
    simp only [den]
    split at h
    · exact shiftBin_sound (.inl rfl) h t
    · exact shiftBin_sound (.inr rfl) h t
    · rename_i hn1 hn2
      by_cases hk : k = k'
      · subst hk
        simp only [decide_true, cond_true] at h
        exact intBin_sound ⟨fun e => hn1 e, fun e => hn2 e⟩ h t
      · simp [hk] at h
  · rename_i b b'
    have hg : (eqGuard op t x y (den φ (.string b)) (den φ (.string b'))).run P w = .ok () w := eqGuard_run (by simp [bothNil]) (by simp)
    rw [Sem.run_bind, hg, Result.andThen_ok]
    simp only [den]
    exact strBin_sound h t
  · rename_i hn1 hn2
    have key : ∀ b, eqB C t (isCst x || isCst y) u v = some b → (∀ op, (eqGuard op t x y (den φ u) (den φ v)).run P w = .ok () w) ∧ (Op.equal t (den φ u) (den φ v)).run P w = .ok b w ∧
        binOp .eql t (den φ u) (den φ v) = (do pure (.bool (← Op.equal t (den φ u) (den φ v)))) ∧ binOp .neq t (den φ u) (den φ v) = (do pure (.bool (!(← Op.equal t (den φ u) (den φ v))))) := by
      intro b hb
      unfold eqB at hb
      cases hc : (bothNil u v && !(isCst x || isCst y)) with
      | true => rw [hc] at hb; cases hb
      | false =>
        rw [hc] at hb
        simp only [cond_false] at hb
        have hsnd := eqV_sound (φ := φ) (w := w) hC 64 10000 (by omega) t u v b hb hu hv
        have hshape : (∀ op, (eqGuard op t x y (den φ u) (den φ v)).run P w = .ok () w) ∧ (∀ k n, den φ u ≠ .int k n ∨ ∀ k' n', den φ v ≠ .int k' n') ∧ (∀ b, den φ u ≠ .string b ∨ ∀ b', den φ v ≠ .string b') ∧
            (∀ k n, den φ u ≠ .float k n) ∧ (∀ k n m, den φ u ≠ .complex k n m) := by
          have hb' := hb
          rw [eqV_succ] at hb'
          split at hb'
          · cases hb'
          rename_i d hd
          split at hb'
          · rename_i xs ys
            refine ⟨fun op => ?_, fun k n => .inl (by simp [den]), fun b => .inl (by simp [den]), fun k n => by simp [den], fun k n m => by simp [den]⟩
            split at hb'
            case h_2 => cases hb'
            split at hb'
            case h_2 => cases hb'
            rename_i hfl
            simp only [den]
            exact run_eqGuard_agg w op t x y _ _ (hC.flat t (by rw [hfl]; rfl)).2
          · exact absurd rfl (hn1 _ _ _ _ rfl)
          · exact absurd rfl (hn2 _ _ rfl)
          · exact ⟨fun op => eqGuard_run hc (fun cs h => by cases h), fun k n => .inl (by simp [den]), fun b => .inl (by simp [den]), fun k n => by simp [den], fun k n m => by simp [den]⟩
          · have hs := eqA_shape (φ := φ) hb'
            exact ⟨fun op => eqGuard_run hc (eqA_not_agg hb'), fun k n => .inl (hs.1 k n), fun b => .inl (hs.2.1 b), hs.2.2.1, hs.2.2.2⟩
        obtain ⟨k1, k2, k3, k4, k5⟩ := hshape
        exact ⟨k1, hsnd, binOp_eql t k2 k3 k4 k5⟩
    split at h
    · split at h
      · rename_i b hb
        cases h
        obtain ⟨k1, k2, k3, k4⟩ := key b hb
        rw [Sem.run_bind, k1, Result.andThen_ok, k3]
        simp [k2, den, Ok]
      · cases h
    · split at h
      · rename_i b hb
        cases h
        obtain ⟨k1, k2, k3, k4⟩ := key b hb
        rw [Sem.run_bind, k1, Result.andThen_ok, k4]
        simp [k2, den, Ok]
      · cases h
    · cases h

theorem unA_sound {op : UnOp} {u r : Value} (h : unA op u = some r) : (Op.unary op (den φ u)).run P w = .ok (den φ r) w ∧ Ok D r := by
  unfold unA at h
  split at h
  · cases h; simp [Op.unary, den, Ok]
  · cases h; simp [Op.unary, Op.intArith, den, Ok]
  · cases h
    refine ⟨?_, by simp [Ok]⟩
    simp only [Op.unary, den, Op.intBits]
    rfl
  · cases h

theorem extract_eq (b : ByteArray) (l h : Nat) : b.extract l h = ⟨⟨(b.data.toList.drop l).take (h - l)⟩⟩ := by
  apply ByteArray.ext
  rw [ByteArray.data_extract]
  apply Array.toList_inj.1
  simp [List.extract_eq_take_drop]

theorem boundA_none {d n : Nat} (h : boundA none d = some n) : n = d := by simp [boundA] at h; exact h.symm
theorem boundA_some {v : Value} {d n : Nat} (h : boundA (some v) d = some n) : ∃ k, v = .int k (.ofNat n) := by
  unfold boundA at h
  split at h
  · rename_i heq; cases heq
  · rename_i k m heq
    cases h
    simp only [Option.some.injEq] at heq
    exact ⟨k, heq⟩
  · cases h

theorem sliceBound_run {k : IntKind} {n y : Nat} {code : BoundsCode} (h : n ≤ y) (w : World) : (Instr.sliceBound (.int k (n : Int)) y code).run P w = .ok n w := by
  simp only [Instr.sliceBound, asIntOf, Sem.run_bind, Sem.run_pure, Result.andThen_ok]
  rw [if_pos (by simp; omega)]
  simp

theorem sliceBounds_run {isS : Bool} {len cap : Nat} {lo hi : Option Value} {l h : Nat} (h1 : boundA hi len = some h) (h2 : boundA lo 0 = some l) (hle : h ≤ cap) (hl : l ≤ h) :
    (Instr.sliceBounds isS len cap (lo.map (den φ)) (hi.map (den φ)) none).run P w = .ok (l, h, cap) w := by
  simp only [Instr.sliceBounds]
  cases hi with
  | none =>
    have := boundA_none h1; subst this
    cases lo with
    | none => have := boundA_none h2; subst this; simp
    | some v =>
      obtain ⟨k, rfl⟩ := boundA_some h2
      simp [den, sliceBound_run hl]
  | some u =>
    obtain ⟨k, rfl⟩ := boundA_some h1
    cases lo with
    | none => have := boundA_none h2; subst this; simp [den, sliceBound_run hle]
    | some v =>
      obtain ⟨k', rfl⟩ := boundA_some h2
      simp [den, sliceBound_run hle, sliceBound_run hl]

theorem sliceBounds3_run {isS : Bool} {len cap : Nat} {lo hi : Option Value} {mv : Value} {l h m : Nat} (h0 : boundA (some mv) 0 = some m) (h1 : boundA hi 0 = some h) (hs : hi.isSome = true) (h2 : boundA lo 0 = some l) (hm : m ≤ cap) (hle : h ≤ m) (hl : l ≤ h) :
    (Instr.sliceBounds isS len cap (lo.map (den φ)) (hi.map (den φ)) (some (den φ mv))).run P w = .ok (l, h, m) w := by
  obtain ⟨k0, rfl⟩ := boundA_some h0
  cases hi with
  | none => cases hs
  | some u =>
    obtain ⟨k, rfl⟩ := boundA_some h1
    simp only [Instr.sliceBounds]
    cases lo with
    | none => have := boundA_none h2; subst this; simp [den, sliceBound_run hle, sliceBound_run hm]
    | some v =>
      obtain ⟨k', rfl⟩ := boundA_some h2
      simp [den, sliceBound_run hle, sliceBound_run hl, sliceBound_run hm]

end
end Go.Eng
