/- The abstract interpreter: append, copy: they answer as the machine does. -/
import Derived.Test.YtcceecleljcfbaaGreatDoorEngOps7
namespace Go.Eng
set_option linter.unusedVariables false
set_option linter.unusedSimpArgs false

section
variable {C : Cx} {P : Program} {φ : Phi} {D : Nat → Prop} {s : St} {w : World} {e : E} {a : Act}

theorem OpOk.ok_value {v : Value} {s : St} {w : World} {run : Result Next} (hr : Rel C φ D s.heap w) (h : run = .ok (.value (den φ v)) w) (hk : Ok D v) : OpOk C φ D s w (.ok (.value v) s) run :=
  After.same hr ⟨_, h, hk, rfl⟩

theorem append_place_run (hC : CxOk C P) {st xt elem : TypeId} {xd : TypeDesc} {ei : TypeInfo} {type : TypeId} {argTypes : Array TypeId} {args : Array Value} {base : Option Addr} {sLen sCap n : Nat} {x : Value} {new : Array Value} {w' : World}
    (ha : argTypes.toList = [st, xt]) (hv : args.toList = [.slice base sLen sCap, x]) (hs : C.und st = some (.slice elem)) (hx : C.und xt = some xd) (hei : C.types.get elem = some ei)
    (happ : AppArg P w xd ei elem x n new) (hle : sLen + n ≤ sCap)
    (hst : (∃ ad, base = some ad ∧ (storeCells (ad.add (sLen * ei.size)) new.toList).run P w = .ok () w') ∨ (base = none ∧ w' = w)) :
    (Builtin.append_ argTypes type args).run P w = .ok (.slice base (sLen + n) sCap) w' := by
  obtain ⟨at0, at1⟩ : argTypes[0]? = some st ∧ argTypes[1]? = some xt := by
    rw [← Array.getElem?_toList, ← Array.getElem?_toList, ha]; exact ⟨rfl, rfl⟩
  obtain ⟨av0, av1⟩ : args[0]? = some (.slice base sLen sCap) ∧ args[1]? = some x := by
    rw [← Array.getElem?_toList, ← Array.getElem?_toList, hv]; exact ⟨rfl, rfl⟩
  have hsz : (sizeOf elem).run P w = .ok ei.size w := run_size hC (by simp [Cx.size_eq, size0, hei]) w
  rcases happ with ⟨hi, hn, hnew⟩ | ⟨k, k', z', rfl, rfl, hn1, hn2, hinf, hz', hzs, rfl⟩
  · have hnew := hnew w rfl
    cases xd <;> simp only [isIntD, Bool.true_eq_false] at hi <;>
    · unfold Builtin.append_
      simp only [at0, at1, av0, av1, Sem.run_bind, run_und hC hs, Result.andThen_ok, hsz, run_und hC hx, Sem.run_pure, Bool.false_eq_true, if_false, hn]
      rw [if_pos hle]
      simp only [Sem.run_bind, Bool.not_false, if_true, hnew, Result.andThen_ok]
      rcases hst with ⟨ad, rfl, h⟩ | ⟨rfl, rfl⟩
      · simp only [Sem.run_bind, h, Result.andThen_ok, Sem.run_pure]
      · simp only [Sem.run_pure]
  · have hwr : IntKind.i64.wrap (n : Int) = n := IntWalk.i64_in _ (by omega)
    have hb : ((ei.bytes : Int) * (n : Int)) ≤ 1099511627776 := by
      have : ((ei.bytes * n : Nat) : Int) ≤ 1099511627776 := by omega
      simpa using this
    have hb' : ¬ ((n : Int) * (ei.bytes : Int) > 2 ^ 48) := by rw [Int.mul_comm]; omega
    have hneg : ¬ ((n : Int) < 0) := by omega
    have happd : ((if n * ei.size = 0 then pure #[] else do pure (Builtin.zeroCells (← zeroValue elem).cells n) : Sem (Array Value))).run P w = .ok (Builtin.zeroCells z'.cells n) w := by
      by_cases h0 : n * ei.size = 0
      · rw [if_pos h0]
        simp [Builtin.zeroCells, hzs, h0]
      · rw [if_neg h0]
        simp only [zeroValue, Sem.run_bind, run_info hC hei, Result.andThen_ok, hz', Sem.run_pure]
    unfold Builtin.append_
    simp only [at0, at1, av0, av1, Sem.run_bind, run_und hC hs, Result.andThen_ok, hsz, run_und hC hx, Sem.run_pure, if_true, asInt, asIntOf, hwr, if_neg hneg, run_info hC hei, if_neg hb', Int.toNat_natCast]
    rw [if_pos hle]
    simp only [Sem.run_bind, Bool.not_true, Bool.false_eq_true, if_false, happd, Result.andThen_ok]
    rcases hst with ⟨ad, rfl, h⟩ | ⟨rfl, rfl⟩
    · simp only [Sem.run_bind, h, Result.andThen_ok, Sem.run_pure]
    · simp only [Sem.run_pure]

theorem append_zero_len (z : Value) (n : Nat) : ∀ {cells : Array Value}, (Builtin.zeroCells cells n).size = n * cells.size := by
  intro cells; simp [Builtin.zeroCells]

theorem rd_world {w w' : World} (hw : w'.heap = w.heap) (hr : Rel C φ D s.heap w) : Rel C φ D s.heap w' := hr.drew hw

theorem den_newSlice (φ : Phi) (n b sl l c : Nat) : den (updPhi φ n ⟨b, 0, sl⟩) (.slice (some ⟨n, 0, none⟩) l (2 * c + 1)) = .slice (some ⟨b, 0, none⟩) l (c + sl) := by
  rw [den_slice, rcap_odd]; simp [updPhi]
theorem den_newSliceE (φ : Phi) (n b sl l c : Nat) : den (updPhi φ n ⟨b, 0, sl⟩) (.slice (some ⟨n, 0, none⟩) l (2 * c)) = .slice (some ⟨b, 0, none⟩) l c := by
  rw [den_slice, rcap_even]; simp [updPhi]
theorem ok_newSlice (D : Nat → Prop) (n l c : Nat) : Ok (addD D n) (.slice (some ⟨n, 0, none⟩) l c) := by
  simp only [Ok]; exact ⟨trivial, .inr rfl⟩

/-- A block is only read from now on. -/
theorem Rel.share (hr : Rel C φ D s.heap w) {b : Nat} {vs : List Value} {elem : TypeId} {par : Option Nat} (hb : s.heap.get b = some (.cells vs elem 0 par)) :
    Rel C φ D (s.heap.set b (.cells vs elem 1 none)) w ∧ Ext φ D s.heap w φ D (s.heap.set b (.cells vs elem 1 none)) w := by
  have hg : ∀ i bi, (s.heap.set b (.cells vs elem 1 none)).get i = some bi → i ≠ b → s.heap.get i = some bi := fun i bi hi hne => by
    rw [T.get_set, if_neg hne] at hi; exact hi
  have hsame : (s.heap.set b (.cells vs elem 1 none)).get b = some (.cells vs elem 1 none) := by rw [T.get_set, if_pos rfl]
  refine ⟨⟨?_, ?_, ?_, hr.glob⟩, ⟨fun _ h => h, fun _ _ => rfl, Nat.le_refl _, rfl, rfl, rfl, fun _ _ _ => rfl, ?_, ?_⟩⟩
  · intro i bi hi
    by_cases e : i = b
    · rw [e]; exact hr.dom b _ hb
    · exact hr.dom i bi (hg i bi hi e)
  · intro i bi hi
    by_cases e : i = b
    · subst e
      rw [hsame] at hi; cases hi
      obtain ⟨ho, c, fr, sz, h1, h2, h3, h4, h5, h6⟩ := hr.blk i _ hb
      exact ⟨ho, c, fr, sz, h1, h2, h3, h4, fun _ => h5 (by omega), h6⟩
    · exact hr.blk i bi (hg i bi hi e)
  · intro i j bi bj hi hj hw e
    by_cases ei : i = b
    · subst ei; rw [hsame] at hi; cases hi; simp [writable] at hw
    · by_cases ej : j = b
      · subst ej
        exact hr.sep i j bi _ (hg i bi hi ei) hb hw e
      · exact hr.sep i j bi bj (hg i bi hi ei) (hg j bj hj ej) hw e
  · intro i bi hi hw hl
    by_cases ei : i = b
    · subst ei; rw [hsame] at hi; cases hi; simp [writable] at hw
    · exact ⟨i, bi, hg i bi hi ei, hw, rfl⟩
  · intro i bi hi hl
    by_cases ei : i = b
    · subst ei; exact ⟨i, _, hb, rfl⟩
    · exact ⟨i, bi, hg i bi hi ei, rfl⟩

end
end Go.Eng
