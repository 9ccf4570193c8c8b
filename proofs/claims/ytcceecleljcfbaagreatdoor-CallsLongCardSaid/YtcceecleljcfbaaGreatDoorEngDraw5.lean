/- The abstract interpreter: regions that draw their order; every order comes to the same. -/
import Derived.Test.YtcceecleljcfbaaGreatDoorEngDraw4
import Derived.Orders
namespace Go.Eng
set_option linter.unusedVariables false
set_option linter.unusedSimpArgs false

section
variable {C : Cx} {P : Program} {g : Rg} {V : T Value} {I : T Info} {rec : Rec} {φ0 : Phi} {D0 : Nat → Prop} {h0 : T Blk} {w0 : World}

/-- Which operations have run. -/
def Ran (listed : Array Bool) : Nat → Prop := fun i => listed[i]? = some true

theorem CInv.congr {S S' : Nat → Prop} {st : St} {M : T Info} {φ : Phi} {D : Nat → Prop} {a : Act} {w : World} (h : CInv C g V I φ0 D0 h0 w0 st M S φ D a w) (e : ∀ i, S i ↔ S' i) :
    CInv C g V I φ0 D0 h0 w0 st M S' φ D a w := by
  have : S = S' := funext fun i => propext (e i)
  exact this ▸ h

theorem ready_mem {ops : Array Oper} {listed : Array Bool} (hsz : listed.size = ops.size) {i : Nat} (h : i ∈ Region.ready .any ops listed) :
    ∃ o, ops[i]? = some o ∧ ¬ Ran listed i ∧ ∀ e ∈ o.after.toList, Region.binds .any e = true → Ran listed e.on := by
  unfold Region.ready at h
  rw [List.mem_filter, List.mem_range, Bool.and_eq_true] at h
  obtain ⟨h1, h2, h3⟩ := h
  refine ⟨ops[i], Array.getElem?_eq_getElem h1, ?_, ?_⟩
  · intro hr
    unfold Ran at hr
    rw [Array.getD_eq_getD_getElem?, hr] at h2
    simp at h2
  · intro e he hb
    rw [Array.getElem?_eq_getElem h1] at h3
    simp only [Option.map_some, Option.getD_some, Array.all_eq_true'] at h3
    have := h3 e (by simpa using he)
    rw [hb] at this
    simp only [Bool.not_true, Bool.false_or] at this
    unfold Ran
    rw [Array.getD_eq_getD_getElem?] at this
    cases hl : listed[e.on]? with
    | none => rw [hl] at this; simp at this
    | some b => rw [hl] at this; simp at this; rw [this]

theorem ready_of {ops : Array Oper} {listed : Array Bool} (hsz : listed.size = ops.size) {i : Nat} {o : Oper} (ho : ops[i]? = some o) (hn : ¬ Ran listed i) (he : ∀ e ∈ o.after.toList, Region.binds .any e = true → Ran listed e.on) :
    i ∈ Region.ready .any ops listed := by
  have hi : i < ops.size := (Array.getElem?_eq_some_iff.1 ho).1
  unfold Region.ready
  rw [List.mem_filter, List.mem_range, Bool.and_eq_true]
  refine ⟨hi, ?_, ?_⟩
  · unfold Ran at hn
    rw [Array.getD_eq_getD_getElem?]
    cases hl : listed[i]? with
    | none => have := Array.getElem?_eq_none_iff.1 hl; omega
    | some b => cases b with
      | true => exact absurd hl hn
      | false => rfl
  · rw [ho]
    simp only [Option.map_some, Option.getD_some, Array.all_eq_true']
    intro e hel
    cases hb : Region.binds .any e with
    | false => rfl
    | true =>
      simp only [Bool.not_true, Bool.false_or]
      have := he e (by simpa using hel) hb
      unfold Ran at this
      rw [Array.getD_eq_getD_getElem?, this]; rfl

theorem some_ready {ops : Array Oper} {listed : Array Bool} (hsz : listed.size = ops.size) (hm : ∀ (i : Nat) (o : Oper), ops[i]? = some o → ∀ e ∈ o.after.toList, Region.binds .any e = true → e.on < i) :
    ∀ (n i : Nat), i < n → i < ops.size → ¬ Ran listed i → ∃ r, r ∈ Region.ready .any ops listed
  | 0, i, h, _, _ => absurd h (Nat.not_lt_zero _)
  | n + 1, i, h, hi, hn => by
    by_cases he : ∀ e ∈ ops[i].after.toList, Region.binds .any e = true → Ran listed e.on
    · exact ⟨i, ready_of hsz (Array.getElem?_eq_getElem hi) hn he⟩
    · have hex : ∃ e : Edge, e ∈ ops[i].after.toList ∧ Region.binds .any e = true ∧ ¬ Ran listed e.on := by
        refine Classical.byContradiction fun hno => he fun e hel hb => Classical.byContradiction fun hr => hno ⟨e, hel, hb, hr⟩
      obtain ⟨e, hel, hb, hr⟩ := hex
      have := hm i ops[i] (Array.getElem?_eq_getElem hi) e hel hb
      exact some_ready hsz hm n e.on (by omega) (by omega) hr

theorem ran_set {listed : Array Bool} {i : Nat} (hi : i < listed.size) (j : Nat) : Ran (listed.setIfInBounds i true) j ↔ (Ran listed j ∨ j = i) := by
  unfold Ran
  by_cases e : i = j
  · subst e
    rw [Array.getElem?_setIfInBounds_self_of_lt hi]
    simp
  · rw [Array.getElem?_setIfInBounds_ne e]
    constructor
    · exact .inl
    · rintro (h | h)
      · exact h
      · exact absurd h.symm e

/-- What a region comes to. -/
def DOut (C : Cx) (P : Program) (g : Rg) (V : T Value) (I : T Info) (φ0 : Phi) (D0 : Nat → Prop) (h0 : T Blk) (w0 : World) (dfr : Bool) (u : FrameMode) (b : Frame) (k : List Item) (cs : List Frame) (n : Nat) (m : Machine) : DEnd → Prop
  | .fin out => ∃ (φ' : Phi) (D' : Nat → Prop) (a' : Act) (w' : World) (S : Nat → Prop), (∀ j, j < n → S j) ∧ CInv C g V I φ0 D0 h0 w0 out I S φ' D' a' w' ∧ Steps P m (lone (fat b a' k) (csOf dfr φ0 u cs) w')
  | .pan ch out => ∃ (φ' : Phi) (D' : Nat → Prop) (a' : Act) (w' : World) (S : Nat → Prop), Inv C φ' D' out w' ∧ Ext φ0 D0 h0 w0 φ' D' out.heap w' ∧ okChain D' ch ∧ a'.tmps.size = g.base.n ∧ a'.defers = g.base.defers.map (denD φ') ∧ (∀ d ∈ g.base.defers, OkD D' d) ∧
      (∀ d v, g.base.tmps.get d = some v → (∀ j, g.dm.get d = some j → ¬ S j) → Ok D' v ∧ a'.tmps[d]? = some (den φ' v)) ∧
      ∃ todo, Steps P m (lone { fat b a' todo with mode := .panicking (ch.map (denP φ')) } (csOf dfr φ0 u cs) w')

theorem DOut.trans {n : Nat} {φ0 : Phi} {D0 : Nat → Prop} {h0 : T Blk} {w0 : World} {dfr : Bool} {u : FrameMode} {b : Frame} {k : List Item} {cs : List Frame} {m m1 : Machine} (h : Steps P m m1) : ∀ {out : DEnd}, DOut C P g V I φ0 D0 h0 w0 dfr u b k cs n m1 out → DOut C P g V I φ0 D0 h0 w0 dfr u b k cs n m out
  | .fin out, ⟨φ', D', a', w', S, h1, h2, h3⟩ => ⟨φ', D', a', w', S, h1, h2, h.trans h3⟩
  | .pan ch out, ⟨φ', D', a', w', S, h1, h2, h3, h4, h5, h6, h7, todo, h8⟩ => ⟨φ', D', a', w', S, h1, h2, h3, h4, h5, h6, h7, todo, h.trans h8⟩

theorem draw_go (hC : CxOk C P) (hrec : RecOk C P rec) {ops : Array Oper} (hops : g.ops = ops.toList) (hm : Masks g.ops g.cls) (htr : ∀ i o m, g.ops[i]? = some o → g.cls.get i = some m → ∀ j, bitB m j = true → ∀ mj, g.cls.get j = some mj → ∀ x, bitB mj x = true → bitB m x = true) (hp : Places g.ops g.dm) (hlt : ∀ (i : Nat) (o : Oper) (d : Nat), g.ops[i]? = some o → o.dst = some d → d < g.base.n)
    {dfr : Bool} {u : FrameMode} {b : Frame} {k : List Item} {cs : List Frame} (hu : okM D0 u) {H nx : Nat} {out : DEnd} (hIO : IOk V I g.ops.length nx) :
    ∀ (fuel t : Nat) (listed : Array Bool) (U : List Nat) (q : Pt) (φ : Phi) (D : Nat → Prop) (a : Act) (w : World), U.length = fuel → U.Nodup → (∀ i, i ∈ U ↔ i < ops.size ∧ ¬ Ran listed i) → listed.size = ops.size →
      Closed g.ops (Ran listed) → (∀ j, Ran listed j → bitB H j = true → bitB q.done j = true) → (∀ j, bitB q.done j = true → Ran listed j) → (∀ j, bitB q.clos j = true → Ran listed j) →
      Path C rec g V I H nx out q → CInv C g V I φ0 D0 h0 w0 q.B q.M (Ran listed) φ D a w →
      DOut C P g V I φ0 D0 h0 w0 dfr u b k cs ops.size (lone (fat b a (.inRegion ops (Region.linearise.go .any ops fuel t listed []) :: k)) (csOf dfr φ0 u cs) w) out := by
  have hmlt : ∀ (i : Nat) (o : Oper), ops[i]? = some o → ∀ e ∈ o.after.toList, Region.binds .any e = true → e.on < i := fun i o ho e he hb => by
    obtain ⟨m, _, h, _⟩ := hm i o (by rw [hops]; simpa using ho)
    exact h e he hb
  have hcl0 : ∀ j, j < g.ops.length → ∃ m, g.cls.get j = some m := fun j hj => by
    obtain ⟨m, h, _⟩ := hm j _ (List.getElem?_eq_getElem hj)
    exact ⟨m, h⟩
  intro fuel
  induction fuel with
  | zero =>
    intro t listed U q φ D a w hUl hUn hU hsz hcl hH hdone hclos hpath hinv
    have hall : ∀ j, j < ops.size → Ran listed j := fun j hj => by
      refine Classical.byContradiction fun hn => ?_
      have := (hU j).2 ⟨hj, hn⟩
      rw [List.length_eq_zero_iff.1 hUl] at this; cases this
    cases hpath with
    | done _ hd hmg hout =>
      subst hout
      obtain ⟨D1, h1⟩ := hmg.inv (S := Ran listed) (fun j hj => hall j (by rw [hops, Array.length_toList] at hj; exact hj)) hIO hinv
      refine ⟨φ, D1, a, w, Ran listed, hall, h1, ?_⟩
      simp only [Region.linearise.go, List.reverse_nil]
      exact .one go_region_end
    | @step _ h m o v V' M' s1 s2 _ ho hc hv hd hHh hs hmg hV hM hkn hst _ =>
      have hl : h < ops.size := by rw [hops] at ho; simpa using (List.getElem?_eq_some_iff.1 ho).1
      have := hH h (hall h hl) hHh
      rw [hd] at this; cases this
    | @pan _ h m o ch V' M' s1 s2 _ ho hc hd hHh hs hmg hV hM hkn hst _ =>
      have hl : h < ops.size := by rw [hops] at ho; simpa using (List.getElem?_eq_some_iff.1 ho).1
      have := hH h (hall h hl) (by rw [hHh, bit_lor, bit_one]; simp)
      rw [hd] at this; cases this
  | succ fuel ih =>
    intro t listed U q φ D a w hUl hUn hU hsz hcl hH hdone hclos hpath hinv
    have hSlt : ∀ j, Ran listed j → j < g.ops.length := fun j hj => by
      rw [hops, Array.length_toList, ← hsz]; exact (Array.getElem?_eq_some_iff.1 hj).1
    have hclm : ∀ j mj, Ran listed j → g.cls.get j = some mj → ∀ x, bitB mj x = true → Ran listed x := fun j mj hj hmj x hx => by
      have hl := hSlt j hj
      have ho := List.getElem?_eq_getElem hl
      exact mask_sub hm hcl hSlt (j + 1) j _ mj (Nat.lt_succ_self _) ho hmj (fun e he hb => hcl j _ hj ho e he hb) x hx
    have hgo : Region.linearise.go .any ops (fuel + 1) t listed [] = match (Region.ready .any ops listed)[t % (Region.ready .any ops listed).length]? with
        | some i => Region.linearise.go .any ops fuel (t / (Region.ready .any ops listed).length) (listed.setIfInBounds i true) [i]
        | none => [] := by
      simp only [Region.linearise.go]
      rfl
    rw [hgo]
    cases hi : (Region.ready .any ops listed)[t % (Region.ready .any ops listed).length]? with
    | none =>
      exfalso
      have hU0 : U ≠ [] := fun e => by rw [e] at hUl; cases hUl
      obtain ⟨x, hx⟩ := List.exists_mem_of_ne_nil U hU0
      have hx' := (hU x).1 hx
      obtain ⟨r, hr⟩ := some_ready hsz hmlt (x + 1) x (Nat.lt_succ_self _) hx'.1 hx'.2
      have hpos : 0 < (Region.ready .any ops listed).length := List.length_pos_of_mem hr
      have := Nat.mod_lt t hpos
      rw [List.getElem?_eq_none_iff] at hi
      omega
    | some i =>
      have hmem := List.mem_of_getElem? hi
      obtain ⟨o, ho, hnr, hed⟩ := ready_mem hsz hmem
      have hil : i < ops.size := (Array.getElem?_eq_some_iff.1 ho).1
      have ho' : g.ops[i]? = some o := by rw [hops]; simpa using ho
      simp only
      rw [linearise_go_acc, List.reverse_singleton, List.singleton_append]
      have hran := fun j => ran_set (listed := listed) (i := i) (by rw [hsz]; exact hil) j
      obtain ⟨m, hcm, _, _⟩ := hm i o ho'
      have hmS : ∀ j, bitB m j = true → Ran listed j := mask_sub hm hcl hSlt (i + 1) i o m (Nat.lt_succ_self _) ho' hcm hed
      have hiU : i ∈ U := (hU i).2 ⟨hil, hnr⟩
      have hUl' : (U.erase i).length = fuel := by rw [List.length_erase_of_mem hiU, hUl]; rfl
      have hU' : ∀ j, j ∈ U.erase i ↔ j < ops.size ∧ ¬ Ran (listed.setIfInBounds i true) j := fun j => by
        rw [hUn.mem_erase_iff, hU j, hran j]
        constructor
        · rintro ⟨h1, h2, h3⟩; exact ⟨h2, fun h => h.elim h3 h1⟩
        · rintro ⟨h1, h2⟩; exact ⟨fun h => h2 (.inr h), h1, fun h => h2 (.inl h)⟩
      have hcl' : Closed g.ops (Ran (listed.setIfInBounds i true)) := fun j oj hj hoj e he hb => by
        rw [hran] at hj ⊢
        rcases hj with hj | rfl
        · exact .inl (hcl j oj hj hoj e he hb)
        · rw [ho'] at hoj; cases hoj; exact .inl (hed e he hb)
      have hsz' : (listed.setIfInBounds i true).size = ops.size := by rw [Array.size_setIfInBounds]; exact hsz
      have hcs : ∀ {φ1 : Phi} {D1 : Nat → Prop} {h1 : T Blk} {w1 : World}, Ext φ0 D0 h0 w0 φ1 D1 h1 w1 → csOf dfr φ0 u cs = csOf dfr φ1 u cs ∧ okM D1 u := fun hx => ⟨csOf_congr (fun i hi => (hx.phi i hi).symm) hu cs, okM.mono hx.dom hu⟩
      cases hHi : bitB H i with
      | true =>
        have hnd : bitB q.done i = false := by
          cases hd : bitB q.done i with
          | false => rfl
          | true => exact absurd (hdone i hd) hnr
        have hIi : I.get i = none := by
          have := ((quietAll_spec hpath.quiet).1 i o ho').2.1 (by rw [Nat.zero_add]; exact hHi)
          rwa [Nat.zero_add] at this
        cases hpath with
        | done _ hd _ _ => rw [hd, hHi] at hnd; cases hnd
        | @pan _ h m' o2 ch V' M' s1 s2 hq hoh hch hdh hHh hs hmg hV hM' hkn hst hout =>
          subst hout
          have heq : h = i := by
            rw [hHh, bit_lor, bit_one, hnd, Bool.false_or, decide_eq_true_eq] at hHi
            exact hHi
          subst heq
          rw [ho'] at hoh; cases hoh
          rw [hcm] at hch; cases hch
          obtain ⟨D1, hinv1⟩ := hmg.inv (S := Ran listed) hmS hIO hinv
          have henv0 : ERel φ (DM I M' (Ran listed) D1 m) (g.env h m V' M' o) a := hinv1.env hcl0 hnr hmS (htr h o m ho' hcm) hclm hV hM'
          have hDeq : DM I M' (Ran listed) D1 m = D1 := by
            funext x
            refine propext ⟨fun hx => ?_, .inl⟩
            rcases hx with hx | ⟨j, f, hb, hS, hIj, hMj, _⟩
            · exact hx
            · exact absurd hMj (hkn.dep hIO j f (hSlt j hS) hb hIj)
          have henv : ERel φ D1 (g.env h m V' M' o) a := by rw [hDeq] at henv0; exact henv0
          obtain ⟨hcs1, hu1⟩ := hcs hinv1.ext
          rw [hops] at hst
          obtain ⟨φ2, D2, w2, r1, r2, r3, todo, r4⟩ := stepP_sound (dfr := dfr) (b := b) (k := k) (cs := cs) (rest := Region.linearise.go .any ops fuel (t / (Region.ready .any ops listed).length) (listed.setIfInBounds h true) []) hC hrec ho hinv1.inv henv hu1 hst
          have hext2 := hinv1.ext.trans r2
          obtain ⟨hcs2, _⟩ := hcs hext2
          rw [← hcs1, ← hcs2] at r4
          refine ⟨φ2, D2, a, w2, Ran listed, r1, hext2, r3, hinv1.size, ?_, fun d hd => OkD.mono r2.dom d (hinv1.dok d hd), ?_, todo, r4⟩
          · rw [hinv1.defers]; exact List.map_congr_left fun d hd => (denD_congr r2.phi d (hinv1.dok d hd)).symm
          · intro d v hb hno
            have := hinv1.base d v hb hno
            exact ⟨Ok.mono r2.dom v this.1, by rw [den_congr r2.phi v this.1]; exact this.2⟩
        | @step _ h m' o2 v V' M' s1 s2 hq hoh hch hvh hdh hHh hs hmg hV hM' hkn hst hrest =>
          have heq : i = h := by
            refine Classical.byContradiction fun hne => ?_
            have hb := hrest.chain i m hHi (by simp only [bit_lor, bit_one, hnd, Bool.false_or, decide_eq_false_iff_not]; exact fun e => hne e.symm) hcm h (by simp only [bit_lor, bit_one, decide_true, Bool.or_true])
            have := hH h (hmS h hb) hHh
            rw [hdh] at this; cases this
          subst heq
          rw [ho'] at hoh; cases hoh
          rw [hcm] at hch; cases hch
          obtain ⟨D1, hinv1⟩ := hmg.inv (S := Ran listed) hmS hIO hinv
          have henv0 : ERel φ (DM I M' (Ran listed) D1 m) (g.env i m V' M' o) a := hinv1.env hcl0 hnr hmS (htr i o m ho' hcm) hclm hV hM'
          have hDeq : DM I M' (Ran listed) D1 m = D1 := by
            funext x
            refine propext ⟨fun hx => ?_, .inl⟩
            rcases hx with hx | ⟨j, f, hb, hS, hIj, hMj, _⟩
            · exact hx
            · exact absurd hMj (hkn.dep hIO j f (hSlt j hS) hb hIj)
          have henv : ERel φ D1 (g.env i m V' M' o) a := by rw [hDeq] at henv0; exact henv0
          obtain ⟨hcs1, hu1⟩ := hcs hinv1.ext
          rw [hops] at hst
          obtain ⟨φ2, D2, w2, r1, r2, r3, r4⟩ := stepV_sound (dfr := dfr) (b := b) (k := k) (cs := cs) (rest := Region.linearise.go .any ops fuel (t / (Region.ready .any ops listed).length) (listed.setIfInBounds i true) []) hC hrec ho hinv1.inv henv hu1 hst
          have hfr : ∀ j f, j < g.ops.length → I.get j = some f → M'.get j = none → s2.next ≤ f.id := fun j f hj hIj hMj => by
            have := ((quietAll_spec hrest.quiet).1 j _ (List.getElem?_eq_getElem hj)).1 f (by rw [Nat.zero_add]; exact hIj) (by rw [Nat.zero_add]; exact hMj)
            exact this
          obtain ⟨φ2', e2, hinv2⟩ := hinv1.heavy hp hcl0 ho' (fun d hd => hlt i o d ho' hd) hnr hclm hvh hIi hcm r1 r2 r3 hfr
          obtain ⟨hcs2, _⟩ := hcs hinv2.ext
          have hden2 : den φ2' v = den φ2 v := den_congr e2 v r3
          have hcs2' : csOf dfr φ2 u cs = csOf dfr φ2' u cs := csOf_congr (fun x hx => (e2 x hx).symm) (okM.mono r2.dom hu1) cs
          rw [← hden2] at r4
          have hinv2' := hinv2.congr (S' := Ran (listed.setIfInBounds i true)) (fun j => (hran j).symm)
          have hfin := ih (t / (Region.ready .any ops listed).length) (listed.setIfInBounds i true) (U.erase i) ⟨s2, M', Nat.lor q.done (Nat.shiftLeft 1 i), Nat.lor q.clos m⟩ φ2' D2 _ w2 hUl' (hUn.erase i) hU' hsz' hcl'
            (fun j hj hb => by
              simp only [bit_lor, bit_one, Bool.or_eq_true, decide_eq_true_eq]
              rcases (hran j).1 hj with hj | hj
              · exact .inl (hH j hj hb)
              · exact .inr hj.symm)
            (fun j hj => by
              simp only [bit_lor, bit_one, Bool.or_eq_true, decide_eq_true_eq] at hj
              rw [hran]
              exact hj.imp (hdone j) Eq.symm)
            (fun j hj => by
              simp only [bit_lor, Bool.or_eq_true] at hj
              rw [hran]
              exact .inl (hj.elim (hclos j) (hmS j)))
            hrest hinv2'
          rw [← hcs1, hcs2', ← hcs2] at r4
          exact DOut.trans r4 hfin
      | false =>
        obtain ⟨hspec, hnx⟩ := quietAll_spec hpath.quiet
        obtain ⟨m', hcm', hqA0⟩ := (hspec i o ho').2.2 (by rw [Nat.zero_add]; exact hHi)
        rw [Nat.zero_add] at hcm' hqA0
        rw [hcm] at hcm'; cases hcm'
        have hfeas : (subB (Nat.land m H) q.done && !bitB q.clos i) = true := by
          rw [Bool.and_eq_true]
          refine ⟨subB_iff.2 fun j hj => ?_, ?_⟩
          · rw [bit_land, Bool.and_eq_true] at hj
            exact hH j (hmS j hj.1) hj.2
          · cases hb : bitB q.clos i with
            | false => rfl
            | true => exact absurd (hclos i hb) hnr
        unfold quietAt at hqA0
        rw [hfeas] at hqA0
        simp only [cond_true, Bool.and_eq_true] at hqA0
        obtain ⟨hqB, hqA⟩ := hqA0
        have henv : ERel φ (DM I q.M (Ran listed) D m) (g.env i m V I o) a := hinv.env hcl0 hnr hmS (htr i o m ho' hcm) hclm (fun _ _ h => h) (fun _ _ h => h)
        have hrelw : Rel C φ (DM I q.M (Ran listed) D m) q.B.heap w := hinv.inv.1.wide fun _ h => .inl h
        have next : ∀ {φ2 : Phi} {D2 : Nat → Prop} {a2 : Act} {w2 : World}, CInv C g V I φ0 D0 h0 w0 q.B q.M (fun j => Ran listed j ∨ j = i) φ2 D2 a2 w2 →
            Steps P (lone (fat b a (.inRegion ops (i :: Region.linearise.go .any ops fuel (t / (Region.ready .any ops listed).length) (listed.setIfInBounds i true) []) :: k)) (csOf dfr φ0 u cs) w)
              (lone (fat b a2 (.inRegion ops (Region.linearise.go .any ops fuel (t / (Region.ready .any ops listed).length) (listed.setIfInBounds i true) []) :: k)) (csOf dfr φ0 u cs) w2) →
            DOut C P g V I φ0 D0 h0 w0 dfr u b k cs ops.size (lone (fat b a (.inRegion ops (i :: Region.linearise.go .any ops fuel (t / (Region.ready .any ops listed).length) (listed.setIfInBounds i true) []) :: k)) (csOf dfr φ0 u cs) w) out := by
          intro φ2 D2 a2 w2 hinv2 hst
          have hinv2' := hinv2.congr (S' := Ran (listed.setIfInBounds i true)) (fun j => (hran j).symm)
          have hfin := ih (t / (Region.ready .any ops listed).length) (listed.setIfInBounds i true) (U.erase i) q φ2 D2 a2 w2 hUl' (hUn.erase i) hU' hsz' hcl'
            (fun j hj hb => by
              rcases (hran j).1 hj with hj | hj
              · exact hH j hj hb
              · subst hj; rw [hHi] at hb; cases hb)
            (fun j hj => (hran j).2 (.inl (hdone j hj))) (fun j hj => (hran j).2 (.inl (hclos j hj))) hpath hinv2'
          exact DOut.trans hst hfin
        obtain ⟨hcs0, hu0⟩ := hcs hinv.ext
        split at hqA
        · -- a value
          rename_i hIi
          split at hqA
          case h_2 => cases hqA
          rename_i v0 v s hV0 hst
          rw [Bool.and_eq_true] at hqA
          have hv := sameV_eq v v0 hqA.1
          subst hv
          have hs := Nat.eq_of_beq_eq_true hqA.2
          have hn : ¬ DM I q.M (Ran listed) D m nx := by
            rintro (hd | ⟨j, f, _, hS, hIj, _, e⟩)
            · have := hinv.inv.2 _ hd; omega
            · have := (hIO j f (hSlt j hS) hIj).2.1; omega
          rw [hops] at hst
          obtain ⟨φ2, w2, r1, r2, r3, r4⟩ := stepV_value (w := w) (b := b) (k := k) (cs := csOf dfr φ0 u cs) (rest := Region.linearise.go .any ops fuel (t / (Region.ready .any ops listed).length) (listed.setIfInBounds i true) []) hC ho hqB hrelw henv hn hst hs
          have hinv2 := hinv.quiet hp hcl0 ho' (fun d hd => hlt i o d ho' hd) hnr hclm hV0 hIi hcm r1 r2 r3
          rw [den_congr r2.phi v r3] at r4
          exact next hinv2 r4
        · -- a new block
          rename_i f hIi
          split at hqA
          case h_2 => cases hqA
          rename_i v s hM0 hst
          rw [Bool.and_eq_true, Bool.and_eq_true] at hqA
          obtain ⟨⟨e2, e3⟩, e4⟩ := hqA
          have hv := sameV_eq v f.v e2
          subst hv
          have hnext := Nat.eq_of_beq_eq_true e3
          have hn : ¬ DM I q.M (Ran listed) D m f.id := by
            rintro (hd | ⟨j, f', _, hS, hIj, hMj, e⟩)
            · have := hinv.inv.2 _ hd
              have := hinv.fresh i f (List.getElem?_eq_some_iff.1 ho').1 hIi hM0
              omega
            · have := (hIO i f (List.getElem?_eq_some_iff.1 ho').1 hIi).2.2 j f' (hSlt j hS) hIj e
              subst this; exact hnr hS
          split at e4
          case h_2 => cases e4
          rename_i bk hbk
          rw [Bool.and_eq_true] at e4
          have hbe := sameB_eq e4.1
          subst hbe
          rw [hops] at hst
          obtain ⟨φ2, w2, r1, r2, r3, r4⟩ := stepV_block (w := w) (b := b) (k := k) (cs := csOf dfr φ0 u cs) (rest := Region.linearise.go .any ops fuel (t / (Region.ready .any ops listed).length) (listed.setIfInBounds i true) []) hC ho hqB hrelw.glob henv hn hst hnext
          obtain ⟨φ3, e1, e2, hinv2⟩ := hinv.block hp hIO hcl0 ho' (fun d hd => hlt i o d ho' hd) hnr hIi hM0 hcm r1 r2 hbk e4.2 r3
          rw [← e1] at r4
          exact next hinv2 r4

end
end Go.Eng
