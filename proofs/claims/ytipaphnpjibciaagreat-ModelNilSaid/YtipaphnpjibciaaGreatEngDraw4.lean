/- The abstract interpreter: regions that draw their order; the way through one. -/
import Derived.Test.YtipaphnpjibciaaGreatEngDraw3
namespace Go.Eng
set_option linter.unusedVariables false
set_option linter.unusedSimpArgs false

section
variable {C : Cx} {P : Program} {g : Rg} {V : T Value} {I : T Info} {rec : Rec}

/-- A new block, made over an empty heap. -/
theorem stepV_block (hC : CxOk C P) {φ : Phi} {D : Nat → Prop} {w : World} {e : E} {a : Act} {ops : Array Oper} {i : Nat} {rest : List Nat} {o : Oper} (ho : ops[i]? = some o) {b : Frame} {k : List Item} {cs : List Frame}
    (hq : quietB C o.op = true) (hg : ∀ g, g < C.globals → D g ∧ φ g = ⟨g, 0, 0⟩) (he : ERel φ D e a) {n : Nat} (hn : ¬ D n) {v : Value} {s' : St} (h : stepV C rec ops.toList o e ⟨.nil, n⟩ = some (v, s')) (hs : s'.next = n + 1) :
    ∃ φ' w', Rel C φ' (addD D n) s'.heap w' ∧ Ext φ D .nil w φ' (addD D n) s'.heap w' ∧ Ok (addD D n) v ∧
      Steps P (lone (fat b a (.inRegion ops (i :: rest) :: k)) cs w) (lone (fat b (a.put o.dst (den φ' v)) (.inRegion ops rest :: k)) cs w') := by
  have hr : Rel C φ D (.nil : T Blk) w := ⟨fun i b h => (by rw [T.get_nil] at h; cases h), fun i b h => (by rw [T.get_nil] at h; cases h), fun i j bi bj h => (by rw [T.get_nil] at h; cases h), hg⟩
  unfold stepV at h
  split at h
  · rename_i hwant
    have hw := wanted_sound he hwant
    have hop := opA_sound (s := ⟨.nil, n⟩) hC hr he hn o
    generalize hres : opA C e o ⟨.nil, n⟩ = res at hop h
    split at h
    · rename_i v0 s1
      cases h
      obtain ⟨φ', D', w', h1, h2, h3, nx', hrun, hnr⟩ := hop
      rcases h3 with ⟨_, h3⟩ | ⟨rfl, _⟩
      · simp only at h3; omega
      have hd : b.roundOf = none ∨ ∀ c, o.op ≠ .defer c := by
        right; intro c hc
        rw [hc] at hq; simp [quietB] at hq
      cases nx' with
      | value v' =>
        obtain ⟨h5, rfl⟩ := hnr
        exact ⟨φ', w', h1, h2, h5, .one (go_value ho hw hd hrun)⟩
      | skip =>
        have hv : v = undef := hnr
        subst hv
        refine ⟨φ', w', h1, h2, ok_undef _, ?_⟩
        rw [den_undef]
        exact .one (go_opskip ho hw hd hrun)
      | _ => exact hnr.elim
    · obtain ⟨_, v, hv⟩ := quiet_state hq hres; cases hv
    · obtain ⟨_, v, hv⟩ := quiet_state hq hres; cases hv
    · cases h
  · cases h; simp only at hs; omega
  · cases h

/-- New blocks are taken into the heap. -/
inductive Merges (I : T Info) (K : Nat → Prop) : T Info → St → T Info → St → Prop
  | refl (M : T Info) (s : St) : Merges I K M s M s
  | step {M M' : T Info} {s s' : St} {j : Nat} {f : Info} : K j → I.get j = some f → M.get j = none → f.id = s.next → Merges I K (M.set j f) (s.new f.b) M' s' → Merges I K M s M' s'

theorem Merges.inv {φ0 : Phi} {D0 : Nat → Prop} {h0 : T Blk} {w0 : World} {K S : Nat → Prop} {M M' : T Info} {st st' : St} (hm : Merges I K M st M' st') (hK : ∀ j, K j → S j) {p : Nat → Pl} {a : Act} {w : World} :
    ∀ {φ : Phi} {D : Nat → Prop}, CInv C g V I φ0 D0 h0 w0 st M S φ D p a w → ∃ φ' D', CInv C g V I φ0 D0 h0 w0 st' M' S φ' D' p a w := by
  induction hm with
  | refl M s => intro φ D h; exact ⟨φ, D, h⟩
  | step hk hI hM hid _ ih =>
    intro φ D h
    obtain ⟨φ1, D1, h1⟩ := h.merge (hK _ hk) hI hM hid
    exact ih h1

/-- From one heavy operation to the next. -/
inductive Path (C : Cx) (rec : Rec) (g : Rg) (V : T Value) (I : T Info) (H : Nat) (out : St) : Pt → Prop
  | done {p : Pt} : quietAll C rec g V I H p g.ops 0 = true → p.done = H → Merges I (fun j => j < g.ops.length) p.M p.B I out → Path C rec g V I H out p
  | step {p : Pt} {h m : Nat} {o : Oper} {v : Value} {V' : T Value} {M' : T Info} {s1 s2 : St} : quietAll C rec g V I H p g.ops 0 = true → g.ops[h]? = some o → g.cls.get h = some m → V.get h = some v →
      bitB p.done h = false → bitB H h = true → subB p.done m = true → Merges I (fun j => bitB m j = true) p.M p.B M' s1 → (∀ j v, V'.get j = some v → V.get j = some v) →
      stepV C rec g.ops o (g.env h m V' M' o) s1 = some (v, s2) → Path C rec g V I H out ⟨s2, M', Nat.lor p.done (Nat.shiftLeft 1 h), Nat.lor p.clos m⟩ → Path C rec g V I H out p

theorem Path.quiet {H : Nat} {out : St} {p : Pt} (h : Path C rec g V I H out p) : quietAll C rec g V I H p g.ops 0 = true := by
  cases h <;> assumption

theorem Path.chain {H : Nat} {out : St} {p : Pt} (h : Path C rec g V I H out p) : ∀ i m, bitB H i = true → bitB p.done i = false → g.cls.get i = some m → ∀ j, bitB p.done j = true → bitB m j = true := by
  induction h with
  | done _ hd _ => intro i m h1 h2 _ _ _; rw [hd, h1] at h2; cases h2
  | @step p h m0 o v V' M' s1 s2 hq ho hc hv hd hH hs hm hV hst _ ih =>
    intro i m h1 h2 h3 j hj
    by_cases e : i = h
    · subst e
      rw [hc] at h3; cases h3
      exact subB_iff.1 hs j hj
    · refine ih i m h1 ?_ h3 j ?_
      · simp only [bit_lor, bit_one, h2, Bool.false_or, decide_eq_false_iff_not]; exact fun e' => e e'.symm
      · simp only [bit_lor, hj, Bool.true_or]

theorem quietAll_spec {H : Nat} {p : Pt} : ∀ {l : List Oper} {i : Nat}, quietAll C rec g V I H p l i = true → ∀ x o, l[x]? = some o →
    (bitB H (i + x) = true → I.get (i + x) = none) ∧ (bitB H (i + x) = false → ∃ m, g.cls.get (i + x) = some m ∧ quietB C o.op = true ∧ quietAt C rec g V I H (i + x) m o p = true)
  | [], i, _, x, o, hx => by cases hx
  | o' :: r, i, h, x, o, hx => by
    simp only [quietAll, Bool.and_eq_true] at h
    cases x with
    | zero =>
      simp only [List.getElem?_cons_zero, Option.some.injEq] at hx; subst hx
      refine ⟨fun hb => ?_, fun hb => ?_⟩
      · have := h.1
        rw [Nat.add_zero] at hb
        rw [hb] at this
        simpa using this
      · have := h.1
        rw [Nat.add_zero] at hb
        rw [hb] at this
        simp only [cond_false] at this
        split at this
        · rw [Bool.and_eq_true] at this
          exact ⟨_, by assumption, this⟩
        · cases this
    | succ x =>
      have := quietAll_spec h.2 x o (by simpa using hx)
      rw [show i + (x + 1) = i + 1 + x from by omega]
      exact this

end
end Go.Eng
