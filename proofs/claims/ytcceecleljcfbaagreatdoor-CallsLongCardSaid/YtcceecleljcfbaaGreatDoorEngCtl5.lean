/- The abstract interpreter: code, by its form. -/
import Derived.Test.YtcceecleljcfbaaGreatDoorEngCtl4
namespace Go.Eng
set_option linter.unusedVariables false
set_option linter.unusedSimpArgs false

section
variable {C : Cx} {P : Program}

/-- What is owed of a region that draws its order. -/
def DrawOk (C : Cx) (P : Program) (rec : Rec) : Prop :=
  ∀ (cf : Cf) (φ : Phi) (D : Nat → Prop) (s : St) (w : World) (e : E) (a : Act) (u : FrameMode) (b : Frame) (k : List Item) (cs : List Frame) (id : Nat) (ops : Array Oper), (cf.dfr = true → cs ≠ []) →
    Inv C φ D s w → ERel φ D e a → okM D u → BOk φ D cf b →
    Out C P φ D s w (lone (fat b a (.code (.region id ops true) :: k)) (csOf cf.dfr φ u cs) w) b k cf.dfr cs (drawnA C rec ops.toList e u s)

theorem code_sound (hC : CxOk C P) {rec : Rec} (hrec : RecOk C P rec) (hdraw : DrawOk C P rec) (n : Nat) : ∀ (c : Code), CodeOk C P rec n c
  | .skip => fun cf φ D s w e a u b k cs hcs hI he hu hB => ⟨φ, D, w, a, hI, he, hu, trivial, Ext.refl .., .one go_skip⟩
  | .label l => fun cf φ D s w e a u b k cs hcs hI he hu hB => ⟨φ, D, w, a, hI, he, hu, trivial, Ext.refl .., .one go_label⟩
  | .region id ops d => fun cf φ D s w e a u b k cs hcs hI he hu hB => by
    cases d with
    | false => exact region_sound hC hrec hcs hI he hu hB
    | true => exact hdraw cf φ D s w e a u b k cs id ops hcs hI he hu hB
  | .seq x y => fun cf φ D s w e a u b k cs hcs hI he hu hB => by
    have h := code_sound hC hrec hdraw n x cf φ D s w e a u b (.code y :: k) cs hcs hI he hu hB
    simp only [codeA, COut.then]
    generalize codeA C rec n cf x e u s = res at h
    cases res with
    | fail => trivial
    | fin x1 e1 u1 s1 =>
      obtain ⟨φ1, D1, w1, a1, h1, h2, h3, h4, h5, h6⟩ := h
      have h6' := Arr.of_steps (.one go_seq) h6
      cases x1 with
      | normal =>
        have ih := code_sound hC hrec hdraw n y cf φ1 D1 s1 w1 e1 a1 u1 b k cs hcs h1 h2 h3 (hB.mono h5.dom h5.phi)
        exact Out.trans h5 h6' ih
      | exit id => exact ⟨φ1, D1, w1, a1, h1, h2, h3, h4, h5, .pass (i := .code y) rfl (by simp [denX]) h6'⟩
      | goto l' => exact ⟨φ1, D1, w1, a1, h1, h2, h3, h4, h5, .pass (i := .code y) rfl (by simp [denX]) h6'⟩
      | ret => exact ⟨φ1, D1, w1, a1, h1, h2, h3, h4, h5, .pass (i := .code y) rfl (by simp [denX]) h6'⟩
      | panic ch => exact ⟨φ1, D1, w1, a1, h1, h2, h3, h4, h5, .pass (i := .code y) rfl (by simp [denX]) h6'⟩
  | .cond c x y => fun cf φ D s w e a u b k cs hcs hI he hu hB => by
    simp only [codeA]
    split
    · rename_i hc
      have hev := (eval_sound hC hI.1 he hc).1
      have h := code_sound hC hrec hdraw n x cf φ D s w e a u b k cs hcs hI he hu hB
      exact Out.trans (Ext.refl ..) (.one (go_cond (t := true) (by rw [hev]; simp [den]))) h
    · rename_i hc
      have hev := (eval_sound hC hI.1 he hc).1
      have h := code_sound hC hrec hdraw n y cf φ D s w e a u b k cs hcs hI he hu hB
      exact Out.trans (Ext.refl ..) (.one (go_cond (t := false) (by rw [hev]; simp [den]))) h
    · trivial
  | .block id x => fun cf φ D s w e a u b k cs hcs hI he hu hB => by
    have h := code_sound hC hrec hdraw n x cf φ D s w e a u b (.inBlock id :: k) cs hcs hI he hu hB
    simp only [codeA]
    generalize codeA C rec n cf x e u s = res at h
    cases res with
    | fail => trivial
    | fin x1 e1 u1 s1 =>
      obtain ⟨φ1, D1, w1, a1, h1, h2, h3, h4, h5, h6⟩ := h
      have h6' := Arr.of_steps (.one go_block) h6
      cases x1 with
      | normal => exact ⟨φ1, D1, w1, a1, h1, h2, h3, h4, h5, Steps.trans h6' (.one go_inBlock)⟩
      | exit j =>
        obtain ⟨kk, hk, hs⟩ := h6'
        simp only [inBlockA]
        cases hj : Nat.beq j id with
        | true =>
          rw [beq_iff] at hj
          subst hj
          refine ⟨φ1, D1, w1, a1, h1, h2, h3, trivial, h5, Steps.trans hs (.one (go_exit ?_))⟩
          rw [hk]; simp [exitTo]
        | false =>
          have hj' := beq_false hj
          refine ⟨φ1, D1, w1, a1, h1, h2, h3, trivial, h5, kk, ?_, hs⟩
          rw [hk]
          have : (id == j) = false := by simp; exact fun h => hj' h.symm
          simp [exitTo, this]
      | goto l' =>
        obtain ⟨kk, hk, hs⟩ := h6'
        exact ⟨φ1, D1, w1, a1, h1, h2, h3, h4, h5, kk, by rw [hk]; simp [gotoIn], hs⟩
      | ret => exact ⟨φ1, D1, w1, a1, h1, h2, h3, h4, h5, h6'⟩
      | panic ch => exact ⟨φ1, D1, w1, a1, h1, h2, h3, h4, h5, h6'⟩
  | .loop x => fun cf φ D s w e a u b k cs hcs hI he hu hB =>
    Out.trans (Ext.refl ..) (.one go_loop) (loop_sound (code_sound hC hrec hdraw n x) hcs n φ D s w e a u hI he hu hB)
  | .rangeFunc f ps as bd => fun cf φ D s w e a u b k cs hcs hI he hu hB => rangeFunc_sound hC hrec hcs hI he hu hB
  | .exit id => fun cf φ D s w e a u b k cs hcs hI he hu hB => ⟨φ, D, w, a, hI, he, hu, trivial, Ext.refl .., k, rfl, .refl ..⟩
  | .scope x => fun cf φ D s w e a u b k cs hcs hI he hu hB => by
    have h := code_sound hC hrec hdraw n x cf φ D s w e a u b (.inScope x :: k) cs hcs hI he hu hB
    simp only [codeA]
    generalize codeA C rec n cf x e u s = res at h
    cases res with
    | fail => trivial
    | fin x1 e1 u1 s1 =>
      obtain ⟨φ1, D1, w1, a1, h1, h2, h3, h4, h5, h6⟩ := h
      have h6' := Arr.of_steps (.one go_scope) h6
      cases x1 with
      | normal => exact ⟨φ1, D1, w1, a1, h1, h2, h3, h4, h5, Steps.trans h6' (.one go_inScope)⟩
      | exit j =>
        obtain ⟨kk, hk, hs⟩ := h6'
        exact ⟨φ1, D1, w1, a1, h1, h2, h3, h4, h5, kk, by rw [hk]; simp [exitTo], hs⟩
      | goto l' => trivial
      | ret => exact ⟨φ1, D1, w1, a1, h1, h2, h3, h4, h5, h6'⟩
      | panic ch => exact ⟨φ1, D1, w1, a1, h1, h2, h3, h4, h5, h6'⟩
  | .goto l => fun cf φ D s w e a u b k cs hcs hI he hu hB => ⟨φ, D, w, a, hI, he, hu, trivial, Ext.refl .., k, rfl, .refl ..⟩
  | .ret => fun cf φ D s w e a u b k cs hcs hI he hu hB => ⟨φ, D, w, a, hI, he, hu, trivial, Ext.refl .., k, .refl ..⟩
  | .refuse _ => fun cf φ D s w e a u b k cs hcs hI he hu hB => trivial

end
end Go.Eng
