/- The abstract interpreter: regions that draw their order; the way through one. -/
import Derived.Test.YtcceecleljcfbaaGreatDoorEngDraw3
namespace Go.Eng
set_option linter.unusedVariables false
set_option linter.unusedSimpArgs false

section
variable {C : Cx} {P : Program} {g : Rg} {V : T Value} {I : T Info} {rec : Rec}

/-- A new block, made over an empty heap. -/
theorem stepV_block (hC : CxOk C P) {φ : Phi} {D : Nat → Prop} {w : World} {e : E} {a : Act} {ops : Array Oper} {i : Nat} {rest : List Nat} {o : Oper} (ho : ops[i]? = some o) {b : Frame} {k : List Item} {cs : List Frame}
    (hq : quietB C o.op = true) (hg : ∀ g, g < C.globals → D g ∧ φ g = ⟨g, 0, 0⟩) (he : ERel φ D e a) {n : Nat} (hn : ¬ D n) {v : Value} {s' : St} (h : stepV C rec ops.toList o e ⟨.nil, n⟩ = some (v, s')) (hs : s'.next = n + 1) :
    ∃ φ' w', Rel C φ' (addD D n) s'.heap w' ∧ Ext φ D .nil w φ' (addD D n) s'.heap w' ∧ Ok (addD D n) v ∧
      Steps P (lone (fat b a (.inRegion ops (i :: rest) :: k)) cs w) (lone (fat b (a.put o.dst (den φ' v)) (.inRegion ops rest :: k)) cs w') := by
  have hr : Rel C φ D (.nil : T Blk) w := ⟨fun i b h => (by rw [T.get_nil] at h; cases h), fun i b h => (by rw [T.get_nil] at h; cases h), fun i j bi bj h => (by rw [T.get_nil] at h; cases h), hg⟩
  unfold stepV at h
  split at h
  · rename_i hwant
    have hw := wanted_sound he hwant
    have hop := opA_sound (s := ⟨.nil, n⟩) hC hr he hn o
    generalize hres : opA C e o ⟨.nil, n⟩ = res at hop h
    split at h
    · rename_i v0 s1
      cases h
      obtain ⟨φ', D', w', h1, h2, h3, nx', hrun, hnr⟩ := hop
      rcases h3 with ⟨_, h3⟩ | ⟨rfl, _⟩
      · simp only at h3; omega
      have hd : b.roundOf = none ∨ ∀ c, o.op ≠ .defer c := by
        right; intro c hc
        rw [hc] at hq; simp [quietB] at hq
      cases nx' with
      | value v' =>
        obtain ⟨h5, rfl⟩ := hnr
        exact ⟨φ', w', h1, h2, h5, .one (go_value ho hw hd hrun)⟩
      | skip =>
        have hv : v = undef := hnr
        subst hv
        refine ⟨φ', w', h1, h2, ok_undef _, ?_⟩
        rw [den_undef]
        exact .one (go_opskip ho hw hd hrun)
      | _ => exact hnr.elim
    · obtain ⟨_, v, hv⟩ := quiet_state hq hres; cases hv
    · obtain ⟨_, v, hv⟩ := quiet_state hq hres; cases hv
    · cases h
  · cases h; simp only at hs; omega
  · cases h

/-- A quiet value, over a heap that may know fewer names than the values do. -/
theorem stepV_value (hC : CxOk C P) {φ : Phi} {D : Nat → Prop} {w : World} {e : E} {a : Act} {ops : Array Oper} {i : Nat} {rest : List Nat} {o : Oper} (ho : ops[i]? = some o) {b : Frame} {k : List Item} {cs : List Frame}
    (hq : quietB C o.op = true) {h : T Blk} (hr : Rel C φ D h w) (he : ERel φ D e a) {n : Nat} (hn : ¬ D n) {v : Value} {s' : St} (hst : stepV C rec ops.toList o e ⟨h, n⟩ = some (v, s')) (hs : s'.next = n) :
    ∃ φ' w', Rel C φ' D h w' ∧ Ext φ D h w φ' D h w' ∧ Ok D v ∧
      Steps P (lone (fat b a (.inRegion ops (i :: rest) :: k)) cs w) (lone (fat b (a.put o.dst (den φ' v)) (.inRegion ops rest :: k)) cs w') := by
  have hs' : s' = ⟨h, n⟩ := by
    rcases stepV_quiet hq hst with h | ⟨bk, h⟩
    · exact h
    · rw [h] at hs; simp [St.new] at hs
  subst hs'
  unfold stepV at hst
  split at hst
  · rename_i hwant
    have hw := wanted_sound he hwant
    have hop := opA_sound (s := ⟨h, n⟩) hC hr he hn o
    generalize hres : opA C e o ⟨h, n⟩ = res at hop hst
    split at hst
    · rename_i v0 s1
      cases hst
      obtain ⟨φ', D', w', h1, h2, h3, nx', hrun, hnr⟩ := hop
      rcases h3 with ⟨rfl, _⟩ | ⟨_, h3⟩
      case inr => simp only at h3; omega
      have hd : b.roundOf = none ∨ ∀ c, o.op ≠ .defer c := by
        right; intro c hc
        rw [hc] at hq; simp [quietB] at hq
      cases nx' with
      | value v' =>
        obtain ⟨h5, rfl⟩ := hnr
        exact ⟨φ', w', h1, h2, h5, .one (go_value ho hw hd hrun)⟩
      | skip =>
        have hv : v = undef := hnr
        subst hv
        refine ⟨φ', w', h1, h2, ok_undef _, ?_⟩
        rw [den_undef]
        exact .one (go_opskip ho hw hd hrun)
      | _ => exact hnr.elim
    · obtain ⟨_, v, hv⟩ := quiet_state hq hres; cases hv
    · obtain ⟨_, v, hv⟩ := quiet_state hq hres; cases hv
    · cases hst
  · rename_i hwant
    have hw := wanted_sound he hwant
    cases hst
    refine ⟨φ, w, hr, Ext.refl .., ok_undef _, ?_⟩
    have := go_op_skip (P := P) (b := b) (a := a) (k := k) (rest := rest) (cs := cs) (w := w) (ops := ops) (i := i) (by rw [ho]; simpa using hw)
    rw [ho] at this
    rw [den_undef]
    exact .one this
  · cases hst

/-- Nothing of m waits. -/
def Known (V : T Value) (M : T Info) (n m : Nat) : Prop := ∀ x, x < n → bitB m x = true → (V.get x).isSome = true ∨ (M.get x).isSome = true

theorem Known.values {V V' : T Value} {M : T Info} {n m : Nat} (h : Known V M n m) (hV : ∀ j v, V.get j = some v → V'.get j = some v) : Known V' M n m := fun x hx hb =>
  (h x hx hb).imp (fun h => by
    cases hx : V.get x with
    | none => rw [hx] at h; cases h
    | some v => rw [hV x v hx]; rfl) id

theorem knownAll_spec {V : T Value} {M : T Info} {m : Nat} : ∀ {n : Nat}, knownAllA V M m n = true → Known V M n m
  | 0, _, x, hx, _ => absurd hx (Nat.not_lt_zero _)
  | n + 1, h, x, hx, hb => by
    simp only [knownAllA, Bool.and_eq_true, Bool.or_eq_true, Bool.not_eq_true'] at h
    by_cases e : x = n
    · subst e
      rcases h.1 with h | h
      · rw [hb] at h; cases h
      · exact h
    · exact knownAll_spec h.2 x (by omega) hb

/-- New blocks are taken into the heap. -/
inductive Merges (g : Rg) (V : T Value) (I : T Info) (K : Nat → Prop) : T Info → St → T Info → St → Prop
  | refl (M : T Info) (s : St) : Merges g V I K M s M s
  | step {M M' : T Info} {s s' : St} {j m : Nat} {f : Info} : K j → I.get j = some f → M.get j = none → f.id = s.next → g.cls.get j = some m → Known V M g.ops.length m →
      Merges g V I K (M.set j f) (s.new f.b) M' s' → Merges g V I K M s M' s'

theorem Known.dep {V : T Value} {I M : T Info} {n m nx : Nat} (h : Known V M n m) (hIO : IOk V I n nx) : ∀ x f', x < n → bitB m x = true → I.get x = some f' → M.get x ≠ none := by
  intro x f' hx hb hI hM
  rcases h x hx hb with h | h
  · rw [(hIO x f' hx hI).1] at h; cases h
  · rw [hM] at h; cases h

theorem Merges.inv {nx : Nat} {φ0 : Phi} {D0 : Nat → Prop} {h0 : T Blk} {w0 : World} {K S : Nat → Prop} {M M' : T Info} {st st' : St} (hm : Merges g V I K M st M' st') (hK : ∀ j, K j → S j) (hIO : IOk V I g.ops.length nx)
    {φ : Phi} {a : Act} {w : World} :
    ∀ {D : Nat → Prop}, CInv C g V I φ0 D0 h0 w0 st M S φ D a w → ∃ D', CInv C g V I φ0 D0 h0 w0 st' M' S φ D' a w := by
  induction hm with
  | refl M s => intro D h; exact ⟨D, h⟩
  | step hk hI hM hid hmj hkn _ ih =>
    intro D h
    obtain ⟨D1, h1⟩ := h.merge hIO (hK _ hk) hI hM hid hmj (fun x f' hS hb hIx => hkn.dep hIO x f' (h.lt x hS) hb hIx)
    exact ih h1

/-- From one heavy operation to the next. -/
inductive Path (C : Cx) (rec : Rec) (g : Rg) (V : T Value) (I : T Info) (H nx : Nat) (out : DEnd) : Pt → Prop
  | done {p : Pt} {fin : St} : quietAll C rec g V I H nx p g.ops 0 = true → p.done = H → Merges g V I (fun j => j < g.ops.length) p.M p.B I fin → out = .fin fin → Path C rec g V I H nx out p
  | step {p : Pt} {h m : Nat} {o : Oper} {v : Value} {V' : T Value} {M' : T Info} {s1 s2 : St} : quietAll C rec g V I H nx p g.ops 0 = true → g.ops[h]? = some o → g.cls.get h = some m → V.get h = some v →
      bitB p.done h = false → bitB H h = true → subB p.done m = true → Merges g V I (fun j => bitB m j = true) p.M p.B M' s1 → (∀ j v, V'.get j = some v → V.get j = some v) → (∀ j f, M'.get j = some f → I.get j = some f) →
      Known V M' g.ops.length m → stepV C rec g.ops o (g.env h m V' M' o) s1 = some (v, s2) →
      Path C rec g V I H nx out ⟨s2, M', Nat.lor p.done (Nat.shiftLeft 1 h), Nat.lor p.clos m⟩ → Path C rec g V I H nx out p
  | pan {p : Pt} {h m : Nat} {o : Oper} {ch : List PanicEntry} {V' : T Value} {M' : T Info} {s1 s2 : St} : quietAll C rec g V I H nx p g.ops 0 = true → g.ops[h]? = some o → g.cls.get h = some m →
      bitB p.done h = false → H = Nat.lor p.done (Nat.shiftLeft 1 h) → subB p.done m = true → Merges g V I (fun j => bitB m j = true) p.M p.B M' s1 → (∀ j v, V'.get j = some v → V.get j = some v) → (∀ j f, M'.get j = some f → I.get j = some f) →
      Known V M' g.ops.length m → stepP C rec g.ops o (g.env h m V' M' o) s1 = some (ch, s2) → out = .pan ch s2 → Path C rec g V I H nx out p

theorem Path.quiet {H nx : Nat} {out : DEnd} {p : Pt} (h : Path C rec g V I H nx out p) : quietAll C rec g V I H nx p g.ops 0 = true := by
  cases h <;> assumption

theorem Path.chain {H nx : Nat} {out : DEnd} {p : Pt} (h : Path C rec g V I H nx out p) : ∀ i m, bitB H i = true → bitB p.done i = false → g.cls.get i = some m → ∀ j, bitB p.done j = true → bitB m j = true := by
  induction h with
  | done _ hd _ _ => intro i m h1 h2 _ _ _; rw [hd, h1] at h2; cases h2
  | @pan p h m0 o ch V' M' s1 s2 hq ho hc hd hH hs hm hV hM hkn hst _ =>
    intro i m h1 h2 h3 j hj
    rw [hH, bit_lor, bit_one, h2, Bool.false_or, decide_eq_true_eq] at h1
    subst h1
    rw [hc] at h3; cases h3
    exact subB_iff.1 hs j hj
  | @step p h m0 o v V' M' s1 s2 hq ho hc hv hd hH hs hm hV hM hkn hst _ ih =>
    intro i m h1 h2 h3 j hj
    by_cases e : i = h
    · subst e
      rw [hc] at h3; cases h3
      exact subB_iff.1 hs j hj
    · refine ih i m h1 ?_ h3 j ?_
      · simp only [bit_lor, bit_one, h2, Bool.false_or, decide_eq_false_iff_not]; exact fun e' => e e'.symm
      · simp only [bit_lor, hj, Bool.true_or]

theorem quietAll_spec {H nx : Nat} {p : Pt} : ∀ {l : List Oper} {i : Nat}, quietAll C rec g V I H nx p l i = true → (∀ x o, l[x]? = some o →
    (∀ f, I.get (i + x) = some f → p.M.get (i + x) = none → p.B.next ≤ f.id) ∧
    (bitB H (i + x) = true → I.get (i + x) = none) ∧ (bitB H (i + x) = false → ∃ m, g.cls.get (i + x) = some m ∧ quietAt C rec g V I H nx (i + x) m o p = true)) ∧ p.B.next ≤ nx
  | [], i, h => ⟨fun x o hx => (by cases hx), Nat.le_of_ble_eq_true h⟩
  | o' :: r, i, h => by
    simp only [quietAll, Bool.and_eq_true] at h
    obtain ⟨ih, hnx⟩ := quietAll_spec h.2
    refine ⟨fun x o hx => ?_, hnx⟩
    cases x with
    | zero =>
      simp only [List.getElem?_cons_zero, Option.some.injEq] at hx; subst hx
      obtain ⟨⟨h0, h1⟩, _⟩ := h
      rw [Nat.add_zero]
      refine ⟨fun f hf hM => ?_, fun hb => ?_, fun hb => ?_⟩
      · rw [hf] at h0
        simp only [hM, Option.isSome_none, Bool.false_or] at h0
        exact Nat.le_of_ble_eq_true h0
      · rw [hb] at h1
        simpa using h1
      · rw [hb] at h1
        simp only [cond_false] at h1
        split at h1
        · exact ⟨_, by assumption, h1⟩
        · cases h1
    | succ x =>
      have := ih x o (by simpa using hx)
      rw [show i + (x + 1) = i + 1 + x from by omega]
      exact this

theorem infos_spec {nx : Nat} : ∀ {l : List Oper} {i : Nat} {seen : List Nat}, infosA V I nx l i seen = true →
    ∀ x f, x < l.length → I.get (i + x) = some f → V.get (i + x) = none ∧ f.id < nx ∧ f.id ∉ seen ∧ ∀ x' f', x' < l.length → I.get (i + x') = some f' → f.id = f'.id → x = x'
  | [], i, seen, h, x, f, hx, _ => absurd hx (Nat.not_lt_zero _)
  | o :: r, i, seen, h, x, f, hx, hI => by
    simp only [infosA] at h
    have tail : ∀ {seen'}, infosA V I nx r (i + 1) seen' = true → ∀ y f, y + 1 < (o :: r).length → I.get (i + (y + 1)) = some f → V.get (i + (y + 1)) = none ∧ f.id < nx ∧ f.id ∉ seen' ∧
        ∀ x' f', x' < r.length → I.get (i + 1 + x') = some f' → f.id = f'.id → y = x' := fun h' y f hy hI => by
      have := infos_spec h' y f (by simpa using hy) (by rw [show i + 1 + y = i + (y + 1) from by omega]; exact hI)
      rw [show i + 1 + y = i + (y + 1) from by omega] at this
      exact this
    split at h
    · rename_i hnone
      cases x with
      | zero => rw [Nat.add_zero, hnone] at hI; cases hI
      | succ y =>
        obtain ⟨a1, a2, a3, a4⟩ := tail h y f hx hI
        refine ⟨a1, a2, a3, fun x' f' hx' hI' e => ?_⟩
        cases x' with
        | zero => rw [Nat.add_zero, hnone] at hI'; cases hI'
        | succ y' => rw [a4 y' f' (by simpa using hx') (by rw [show i + 1 + y' = i + (y' + 1) from by omega]; exact hI') e]
    · rename_i f0 hf0
      simp only [Bool.and_eq_true, Option.isNone_iff_eq_none, Bool.not_eq_true', memN_eq] at h
      obtain ⟨⟨⟨b1, b2⟩, b3⟩, b4⟩ := h
      have b2' : f0.id < nx := by simpa [Nat.blt_eq] using b2
      have b3' : f0.id ∉ seen := by simpa using b3
      cases x with
      | zero =>
        rw [Nat.add_zero] at hI ⊢
        rw [hf0] at hI; cases hI
        refine ⟨b1, b2', b3', fun x' f' hx' hI' e => ?_⟩
        cases x' with
        | zero => rfl
        | succ y' =>
          have := (tail b4 y' f' hx' hI').2.2.1
          exact absurd (List.mem_cons.2 (.inl e.symm)) this
      | succ y =>
        obtain ⟨a1, a2, a3, a4⟩ := tail b4 y f hx hI
        refine ⟨a1, a2, fun hm => a3 (List.mem_cons_of_mem _ hm), fun x' f' hx' hI' e => ?_⟩
        cases x' with
        | zero =>
          rw [Nat.add_zero, hf0] at hI'; cases hI'
          exact absurd (List.mem_cons.2 (.inl e)) a3
        | succ y' => rw [a4 y' f' (by simpa using hx') (by rw [show i + 1 + y' = i + (y' + 1) from by omega]; exact hI') e]

theorem iok_of {nx : Nat} {l : List Oper} (h : infosA V I nx l 0 [] = true) : IOk V I l.length nx := by
  intro j f hj hI
  have := infos_spec h j f hj (by rw [Nat.zero_add]; exact hI)
  simp only [Nat.zero_add] at this
  exact ⟨this.1, this.2.1, this.2.2.2⟩

end
end Go.Eng
