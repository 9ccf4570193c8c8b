/- The abstract interpreter: code. -/
import Derived.Test.YtcceecleljcfbaaGreatDoorEngCtl2
namespace Go.Eng
set_option linter.unusedVariables false
set_option linter.unusedSimpArgs false

section
variable {C : Cx} {P : Program} {φ : Phi} {D : Nat → Prop} {s : St} {w : World} {e : E} {a : Act}

theorem Out.trans {φ1 : Phi} {D1 : Nat → Prop} {s1 : St} {w1 : World} {m m1 : Machine} {b : Frame} {k : List Item} {dfr : Bool} {cs : List Frame} {r : COut}
    (hx : Ext φ D s.heap w φ1 D1 s1.heap w1) (hs : Steps P m m1) (h : Out C P φ1 D1 s1 w1 m1 b k dfr cs r) : Out C P φ D s w m b k dfr cs r := by
  cases r with
  | fail => trivial
  | fin x e u s' =>
    obtain ⟨φ', D', w', a', h1, h2, h3, h4, h5, h6⟩ := h
    exact ⟨φ', D', w', a', h1, h2, h3, h4, hx.trans h5, .of_steps hs h6⟩

theorem ops_sound (hC : CxOk C P) {rec : Rec} (hrec : RecOk C P rec) {cf : Cf} {ops : Array Oper} {b : Frame} {k : List Item} {cs : List Frame} (hcs : cf.dfr = true → cs ≠ []) :
    ∀ (l : List Oper) (i : Nat) (φ : Phi) (D : Nat → Prop) (s : St) (w : World) (e : E) (a : Act) (u : FrameMode), (∀ j o, l[j]? = some o → ops[i + j]? = some o) →
      Inv C φ D s w → ERel φ D e a → okM D u → BOk φ D cf b →
      Out C P φ D s w (lone (fat b a (.inRegion ops (List.range' i l.length) :: k)) (csOf cf.dfr φ u cs) w) b k cf.dfr cs (opsA C rec cf ops.toList l e u s)
  | [], i, φ, D, s, w, e, a, u, hl, hI, he, hu, hB => by
    exact ⟨φ, D, w, a, hI, he, hu, trivial, Ext.refl .., .one go_region_end⟩
  | o :: r, i, φ, D, s, w, e, a, u, hl, hI, he, hu, hB => by
    have ho : ops[i]? = some o := by simpa using hl 0 o rfl
    have hr' : List.range' i (o :: r).length = i :: List.range' (i + 1) r.length := by simp [List.range']
    rw [hr']
    have hstep := opStep_sound (rest := List.range' (i + 1) r.length) (k := k) hC hrec ho hI he hu hB hcs
    simp only [opsA]
    generalize opStep C rec cf ops.toList o e u s = res at hstep
    cases res with
    | fail => trivial
    | fin x e1 u1 s1 =>
      obtain ⟨φ1, D1, w1, a1, h1, h2, h3, h4, h5, h6⟩ := hstep
      cases x with
      | normal =>
        have ih := ops_sound hC hrec (k := k) hcs r (i + 1) φ1 D1 s1 w1 e1 a1 u1 (fun j o' hj => by
          have := hl (j + 1) o' (by simpa using hj)
          rw [show i + 1 + j = i + (j + 1) from by omega]; exact this) h1 h2 h3 (hB.mono h5.dom h5.phi)
        exact Out.trans h5 h6 ih
      | exit id => exact ⟨φ1, D1, w1, a1, h1, h2, h3, h4, h5, .pass (i := .inRegion ops (List.range' (i + 1) r.length)) rfl (by simp [denX]) h6⟩
      | goto l' => exact ⟨φ1, D1, w1, a1, h1, h2, h3, h4, h5, .pass (i := .inRegion ops (List.range' (i + 1) r.length)) rfl (by simp [denX]) h6⟩
      | ret => exact ⟨φ1, D1, w1, a1, h1, h2, h3, h4, h5, .pass (i := .inRegion ops (List.range' (i + 1) r.length)) rfl (by simp [denX]) h6⟩
      | panic ch => exact ⟨φ1, D1, w1, a1, h1, h2, h3, h4, h5, .pass (i := .inRegion ops (List.range' (i + 1) r.length)) rfl (by simp [denX]) h6⟩

theorem region_sound (hC : CxOk C P) {rec : Rec} (hrec : RecOk C P rec) {cf : Cf} {id : Nat} {ops : Array Oper} {b : Frame} {k : List Item} {cs : List Frame} {u : FrameMode} (hcs : cf.dfr = true → cs ≠ [])
    (hI : Inv C φ D s w) (he : ERel φ D e a) (hu : okM D u) (hB : BOk φ D cf b) :
    Out C P φ D s w (lone (fat b a (.code (.region id ops false) :: k)) (csOf cf.dfr φ u cs) w) b k cf.dfr cs (opsA C rec cf ops.toList ops.toList e u s) := by
  have := ops_sound hC hrec (k := k) hcs ops.toList 0 φ D s w e a u (fun j o hj => by simpa using hj) hI he hu hB
  rw [Array.length_toList, ← List.range_eq_range'] at this
  exact Out.trans (Ext.refl ..) (.one go_region) this

/-- What one piece of code's answer is worth. -/
def CodeOk (C : Cx) (P : Program) (rec : Rec) (n : Nat) (c : Code) : Prop :=
  ∀ (cf : Cf) (φ : Phi) (D : Nat → Prop) (s : St) (w : World) (e : E) (a : Act) (u : FrameMode) (b : Frame) (k : List Item) (cs : List Frame), (cf.dfr = true → cs ≠ []) →
    Inv C φ D s w → ERel φ D e a → okM D u → BOk φ D cf b →
    Out C P φ D s w (lone (fat b a (.code c :: k)) (csOf cf.dfr φ u cs) w) b k cf.dfr cs (codeA C rec n cf c e u s)

theorem loop_sound {rec : Rec} {n : Nat} {body : Code} (hb : CodeOk C P rec n body) {cf : Cf} {b : Frame} {k : List Item} {cs : List Frame} (hcs : cf.dfr = true → cs ≠ []) :
    ∀ (m : Nat) (φ : Phi) (D : Nat → Prop) (s : St) (w : World) (e : E) (a : Act) (u : FrameMode), Inv C φ D s w → ERel φ D e a → okM D u → BOk φ D cf b →
      Out C P φ D s w (lone (fat b a (.code body :: .inLoop body :: k)) (csOf cf.dfr φ u cs) w) b k cf.dfr cs (iterA (codeA C rec n cf body) m e u s)
  | 0, φ, D, s, w, e, a, u, _, _, _, _ => trivial
  | m + 1, φ, D, s, w, e, a, u, hI, he, hu, hB => by
    have h := hb cf φ D s w e a u b (.inLoop body :: k) cs hcs hI he hu hB
    simp only [iterA]
    generalize codeA C rec n cf body e u s = res at h
    cases res with
    | fail => trivial
    | fin x e1 u1 s1 =>
      obtain ⟨φ1, D1, w1, a1, h1, h2, h3, h4, h5, h6⟩ := h
      cases x with
      | normal =>
        have ih := loop_sound hb hcs (k := k) m φ1 D1 s1 w1 e1 a1 u1 h1 h2 h3 (hB.mono h5.dom h5.phi)
        exact Out.trans h5 (Steps.trans h6 (.one go_inLoop)) ih
      | exit id => exact ⟨φ1, D1, w1, a1, h1, h2, h3, h4, h5, .pass (i := .inLoop body) rfl (by simp [denX]) h6⟩
      | goto l' => exact ⟨φ1, D1, w1, a1, h1, h2, h3, h4, h5, .pass (i := .inLoop body) rfl (by simp [denX]) h6⟩
      | ret => exact ⟨φ1, D1, w1, a1, h1, h2, h3, h4, h5, .pass (i := .inLoop body) rfl (by simp [denX]) h6⟩
      | panic ch => exact ⟨φ1, D1, w1, a1, h1, h2, h3, h4, h5, .pass (i := .inLoop body) rfl (by simp [denX]) h6⟩

end
end Go.Eng
