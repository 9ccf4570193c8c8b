/- The abstract interpreter: a list that grows where it lies. -/
import Derived.Test.YtcceecleljcfbaaGreatDoorEngOps8
namespace Go.Eng
set_option linter.unusedVariables false
set_option linter.unusedSimpArgs false

section
variable {C : Cx} {P : Program} {φ : Phi} {D : Nat → Prop} {s : St} {w : World} {e : E} {a : Act}

theorem Rel.growPlace {h0 : T Blk} (hr : Rel C φ D h0 w) {b k o len n size cap : Nat} {vs new : List Value} {elem : TypeId} {par : Option Nat}
    (hb : h0.get b = some (.cells vs elem 0 par)) (hpar : ∀ q, par = some q → h0.get q = none) (hk : ¬ D k) (hsz : C.size elem = some size)
    (halign : o % size = 0) (hend : o + cap * size = vs.length) (hlen : len = cap) (hroom : len + n ≤ cap + (φ b).slack) (hnl : new.length = n * size) (hnew : OkL D new) (hone : oneCells new = true) :
    ∃ w1 φ1, φ1 = updPhi φ k ⟨(φ b).block, (φ b).off + o, cap + (φ b).slack - (len + n)⟩ ∧
      (∀ P : Program, (storeCells ⟨(φ b).block, (φ b).off + (o + len * size), none⟩ (denL φ new)).run P w = .ok () w1) ∧
      Rel C φ1 (addD D k) ((h0.set b (.cells vs elem 1 none)).set k (.cells ((vs.drop o).take (len * size) ++ new) elem 0 (some b))) w1 ∧
      Ext φ D h0 w φ1 (addD D k) ((h0.set b (.cells vs elem 1 none)).set k (.cells ((vs.drop o).take (len * size) ++ new) elem 0 (some b))) w1 := by
  obtain ⟨ho, c, fr, sz, h1, h2, h3, h4, h5, h6⟩ := hr.blk b _ hb
  have hf := h5 (by omega)
  rw [hsz] at h2; cases h2
  have hDb := hr.dom b _ hb
  have hkb : k ≠ b := fun e => hk (e ▸ hDb)
  subst hlen
  have hmul : (len + n) * size + (len + (φ b).slack - (len + n)) * size = (len + (φ b).slack) * size := by
    rw [← Nat.add_mul]; congr 1; omega
  have hm2 : (len + (φ b).slack) * size = len * size + (φ b).slack * size := Nat.add_mul ..
  have hm3 : (len + n) * size = len * size + n * size := Nat.add_mul ..
  have hw1 : (φ b).off + (o + len * size) + (denL φ new).length ≤ c.size := by rw [denL_map, List.length_map, hnl]; omega
  have hrun : ∀ P : Program, (storeCells ⟨(φ b).block, (φ b).off + (o + len * size), none⟩ (denL φ new)).run P w = .ok () (setB w (φ b).block (.cells (wr c ((φ b).off + (o + len * size)) (denL φ new)) elem fr)) := fun P => by
    simpa using run_storeCells_wr P (φ b).block ((φ b).off + (o + len * size)) elem fr (denL φ new) 0 c w h1 (by simpa using hw1) hf (oneCells_den φ new hone)
  refine ⟨_, _, rfl, hrun, ?_⟩
  generalize hφ1 : updPhi φ k ⟨(φ b).block, (φ b).off + o, len + (φ b).slack - (len + n)⟩ = φ1
  have hφ : ∀ i, D i → φ1 i = φ i := fun i hi => by
    rw [← hφ1]; unfold updPhi; rw [if_neg]; intro e; subst e; exact hk hi
  have hφk : φ1 k = ⟨(φ b).block, (φ b).off + o, len + (φ b).slack - (len + n)⟩ := by rw [← hφ1]; unfold updPhi; rw [if_pos rfl]
  have halone : ∀ j bj, h0.get j = some bj → j ≠ b → (φ j).block ≠ (φ b).block := fun j bj hj hne e => by
    rcases hr.sep b j _ bj hb hj rfl e.symm with e' | e'
    · exact hne e'.symm
    · rw [hpar j e'] at hj; cases hj
  have hget : ∀ i bi, ((h0.set b (.cells vs elem 1 none)).set k (.cells ((vs.drop o).take (len * size) ++ new) elem 0 (some b))).get i = some bi →
      (i = k ∧ bi = .cells ((vs.drop o).take (len * size) ++ new) elem 0 (some b)) ∨ (i = b ∧ bi = .cells vs elem 1 none) ∨ (i ≠ k ∧ i ≠ b ∧ h0.get i = some bi) := by
    intro i bi hi
    rw [T.get_set] at hi
    split at hi
    · left; cases hi; exact ⟨by assumption, rfl⟩
    · rename_i e1
      rw [T.get_set] at hi
      split at hi
      · right; left; cases hi; exact ⟨by assumption, rfl⟩
      · rename_i e2
        exact .inr (.inr ⟨e1, e2, hi⟩)
  have hother : ∀ j, j ≠ (φ b).block → (setB w (φ b).block (.cells (wr c ((φ b).off + (o + len * size)) (denL φ new)) elem fr)).heap[j]? = w.heap[j]? := fun j hj => setB_other hj
  have hsame : (setB w (φ b).block (.cells (wr c ((φ b).off + (o + len * size)) (denL φ new)) elem fr)).heap[(φ b).block]? = some (.cells (wr c ((φ b).off + (o + len * size)) (denL φ new)) elem fr) := setB_same (heap_lt h1)
  have hwr : ∀ j, (wr c ((φ b).off + (o + len * size)) (denL φ new))[j]? = if (φ b).off + (o + len * size) ≤ j ∧ j < (φ b).off + (o + len * size) + new.length then (denL φ new)[j - ((φ b).off + (o + len * size))]? else c[j]? := fun j => by
    rw [wr_get _ _ _ _ hw1]; simp [denL_map]
  have hoL := (OkL_iff D vs).1 ho
  have hoN := (OkL_iff D new).1 hnew
  refine ⟨⟨?_, ?_, ?_, ?_⟩, ⟨fun i hi => .inl hi, hφ, Nat.le_of_eq (setB_size ..).symm, rfl, rfl, rfl, ?_, ?_, ?_⟩⟩
  · intro i bi hi
    rcases hget i bi hi with ⟨rfl, _⟩ | ⟨rfl, _⟩ | ⟨_, _, hi⟩
    · exact .inr rfl
    · exact .inl hDb
    · exact .inl (hr.dom i bi hi)
  · intro i bi hi
    rcases hget i bi hi with ⟨rfl, rfl⟩ | ⟨rfl, rfl⟩ | ⟨hik, hib, hi⟩
    · rw [hφk]
      refine ⟨?_, _, fr, size, hsame, hsz, ?_, ?_, fun _ => by rw [wr_size]; exact hf, by rw [Nat.add_mod, h6, halign, Nat.zero_mod]⟩
      · rw [OkL_iff]
        intro x hx
        rcases List.mem_append.1 hx with hx | hx
        · exact Ok.mono (fun _ h => .inl h) x (hoL x (List.mem_of_mem_drop (List.mem_of_mem_take hx)))
        · exact Ok.mono (fun _ h => .inl h) x (hoN x hx)
      · rw [wr_size]
        simp only [List.length_append, List.length_take, List.length_drop, hnl]
        rw [Nat.min_eq_left (by omega)]
        omega
      · intro j v hj
        have hv : Ok D v := by
          rcases List.mem_append.1 (List.mem_of_getElem? hj) with hx | hx
          · exact hoL v (List.mem_of_mem_drop (List.mem_of_mem_take hx))
          · exact hoN v hx
        rw [den_congr hφ v hv, hwr]
        simp only
        have htl : ((vs.drop o).take (len * size)).length = len * size := by simp; omega
        by_cases hj1 : j < len * size
        · rw [if_neg (by omega)]
          rw [List.getElem?_append_left (by omega), List.getElem?_take_of_lt hj1, List.getElem?_drop] at hj
          have := h4 _ _ hj
          rw [← this]; congr 1; omega
        · rw [List.getElem?_append_right (by omega), htl] at hj
          have hjl := (List.getElem?_eq_some_iff.1 hj).1
          rw [if_pos (by omega), getElem?_denL, show (φ b).off + o + j - ((φ b).off + (o + len * size)) = j - len * size from by omega, hj]
          rfl
    · rw [hφ i hDb]
      refine ⟨OkL.mono (fun _ h => .inl h) _ ho, _, fr, size, hsame, hsz, by rw [wr_size]; exact h3, ?_, fun _ => by rw [wr_size]; exact hf, h6⟩
      intro j v hj
      have hjl := (List.getElem?_eq_some_iff.1 hj).1
      rw [den_congr hφ v (hoL v (List.mem_of_getElem? hj)), hwr, if_neg (by omega)]
      exact h4 j v hj
    · rw [hφ i (hr.dom i bi hi)]
      exact (hr.blk i bi hi).mono (fun _ h => .inl h) hφ (hother _ (halone i bi hi hib))
  · intro i j bi bj hi hj hw e
    rcases hget i bi hi with ⟨rfl, rfl⟩ | ⟨rfl, rfl⟩ | ⟨hik, hib, hi'⟩
    · rcases hget j bj hj with ⟨rfl, rfl⟩ | ⟨rfl, rfl⟩ | ⟨hjk, hjb, hj⟩
      · left; rfl
      · right; rfl
      · rw [hφk, hφ j (hr.dom j bj hj)] at e
        exact absurd e.symm (halone j bj hj hjb)
    · simp [writable] at hw
    · rw [hφ i (hr.dom i bi hi')] at e
      rcases hget j bj hj with ⟨rfl, rfl⟩ | ⟨rfl, rfl⟩ | ⟨hjk, hjb, hj⟩
      · rw [hφk] at e
        exact absurd e (halone i bi hi' hib)
      · rw [hφ j hDb] at e
        exact absurd e (halone i bi hi' hib)
      · rw [hφ j (hr.dom j bj hj)] at e
        exact hr.sep i j bi bj hi' hj hw e
  · intro g hg
    have := hr.glob g hg
    exact ⟨.inl this.1, (hφ g this.1).trans this.2⟩
  · intro j hj hno
    exact hother j (fun e => hno b _ hb rfl e.symm)
  · intro i bi hi hw hl
    rcases hget i bi hi with ⟨rfl, rfl⟩ | ⟨rfl, rfl⟩ | ⟨hik, hib, hi⟩
    · exact ⟨b, _, hb, rfl, by rw [hφk]⟩
    · simp [writable] at hw
    · exact ⟨i, bi, hi, hw, by rw [hφ i (hr.dom i bi hi)]⟩
  · intro i bi hi hl
    rcases hget i bi hi with ⟨rfl, rfl⟩ | ⟨rfl, rfl⟩ | ⟨hik, hib, hi⟩
    · exact ⟨b, _, hb, by rw [hφk]⟩
    · exact ⟨_, _, hb, by rw [hφ _ hDb]⟩
    · exact ⟨i, bi, hi, by rw [hφ i (hr.dom i bi hi)]⟩

end
end Go.Eng
