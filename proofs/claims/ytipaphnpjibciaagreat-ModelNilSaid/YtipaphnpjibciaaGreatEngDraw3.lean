/- The abstract interpreter: regions that draw their order; what holds between two operations. -/
import Derived.Test.YtipaphnpjibciaaGreatEngDraw2
namespace Go.Eng
set_option linter.unusedVariables false
set_option linter.unusedSimpArgs false

section
variable {C : Cx} {P : Program} {g : Rg} {V : T Value} {I : T Info} {φ0 : Phi} {D0 : Nat → Prop} {h0 : T Blk} {w0 : World}

/-- A block that lay apart is taken into the heap. -/
theorem Rel.add {φ : Phi} {D : Nat → Prop} {h : T Blk} {w : World} (hr : Rel C φ D h w) {n : Nat} (hn : ¬ D n) {p : Pl} {b : Blk} (hb : BlkIs C φ D w p b) (hno : ∀ i bi, h.get i = some bi → (φ i).block ≠ p.block) :
    Rel C (updPhi φ n p) (addD D n) (h.set n b) w := by
  have hφ : ∀ i, D i → updPhi φ n p i = φ i := fun i hi => by
    unfold updPhi; rw [if_neg]; intro e; subst e; exact hn hi
  have hφn : updPhi φ n p n = p := by unfold updPhi; rw [if_pos rfl]
  refine ⟨?_, ?_, ?_, ?_⟩
  · intro i bi hi
    rw [T.get_set] at hi
    split at hi
    · rename_i e; exact .inr e
    · exact .inl (hr.dom i bi hi)
  · intro i bi hi
    rw [T.get_set] at hi
    split at hi
    · rename_i e; cases hi; rw [e, hφn]; exact hb.mono (fun _ h => .inl h) hφ rfl
    · rw [hφ i (hr.dom i bi hi)]
      exact (hr.blk i bi hi).mono (fun _ h => .inl h) hφ rfl
  · intro i j bi bj hi hj hw e
    rw [T.get_set] at hi hj
    by_cases ei : i = n <;> by_cases ej : j = n
    · left; omega
    · rw [if_neg ej] at hj
      rw [ei, hφn, hφ j (hr.dom j bj hj)] at e
      exact absurd e.symm (hno j bj hj)
    · rw [if_neg ei] at hi
      rw [ej, hφn, hφ i (hr.dom i bi hi)] at e
      exact absurd e (hno i bi hi)
    · rw [if_neg ei] at hi; rw [if_neg ej] at hj
      rw [hφ i (hr.dom i bi hi), hφ j (hr.dom j bj hj)] at e
      exact hr.sep i j bi bj hi hj hw e
  · intro k hk
    have := hr.glob k hk
    exact ⟨.inl this.1, (hφ k this.1).trans this.2⟩

/-- Between two operations: st is the heap, M the new blocks that lie in it, S the operations that have run. -/
structure CInv (C : Cx) (g : Rg) (V : T Value) (I : T Info) (φ0 : Phi) (D0 : Nat → Prop) (h0 : T Blk) (w0 : World) (st : St) (M : T Info) (S : Nat → Prop) (φ : Phi) (D : Nat → Prop) (p : Nat → Pl) (a : Act) (w : World) : Prop where
  inv : Inv C φ D st w
  ext : Ext φ0 D0 h0 w0 φ D st.heap w
  size : a.tmps.size = g.base.n
  defers : a.defers = g.base.defers.map (denD φ)
  dok : ∀ d ∈ g.base.defers, OkD D d
  base : ∀ d v, g.base.tmps.get d = some v → (∀ j, g.dm.get d = some j → ¬ S j) → Ok D v ∧ a.tmps[d]? = some (den φ v)
  vals : ∀ j v, S j → V.get j = some v → Ok D v ∧ ∀ d, g.dm.get d = some j → a.tmps[d]? = some (den φ v)
  mrg : ∀ j f, S j → M.get j = some f → Ok D f.v ∧ ∀ d, g.dm.get d = some j → a.tmps[d]? = some (den φ f.v)
  sub : ∀ j f, M.get j = some f → I.get j = some f
  pend : ∀ j f, S j → I.get j = some f → M.get j = none → BlkIs C φ D w (p j) f.b ∧ (∀ i bi, st.heap.get i = some bi → (φ i).block ≠ (p j).block) ∧ w0.heap.size ≤ (p j).block ∧
    Ok (addD D f.id) f.v ∧ ∀ d, g.dm.get d = some j → a.tmps[d]? = some (den (updPhi φ f.id (p j)) f.v)
  apart : ∀ j j' f f', S j → S j' → I.get j = some f → I.get j' = some f' → M.get j = none → M.get j' = none → j ≠ j' → (p j).block ≠ (p j').block

variable {st st' : St} {M : T Info} {S : Nat → Prop} {φ φ' : Phi} {D D' : Nat → Prop} {p : Nat → Pl} {a : Act} {w w' : World} {i : Nat} {o : Oper}

theorem put_get (a : Act) (dst : Option Tmp) (x : Value) (d : Nat) (h : ∀ t, dst = some t → t < a.tmps.size) : (a.put dst x).tmps[d]? = if dst = some d then some x else a.tmps[d]? := by
  cases dst with
  | none => rw [if_neg (by simp)]; rfl
  | some t =>
    simp only [Act.put]
    by_cases e : t = d
    · subst e
      rw [if_pos rfl, Array.getElem?_setIfInBounds_self_of_lt (h _ rfl)]
    · rw [if_neg (by simpa using e), Array.getElem?_setIfInBounds_ne e]

theorem put_size (a : Act) (dst : Option Tmp) (x : Value) : (a.put dst x).tmps.size = a.tmps.size := by
  cases dst <;> simp [Act.put]
theorem put_defers (a : Act) (dst : Option Tmp) (x : Value) : (a.put dst x).defers = a.defers := by
  cases dst <;> rfl

theorem upd_congr (hx : ∀ i, D i → φ' i = φ i) (n : Nat) (q : Pl) {v : Value} (hv : Ok (addD D n) v) : den (updPhi φ' n q) v = den (updPhi φ n q) v := by
  refine den_congr (D := addD D n) (fun i hi => ?_) v hv
  unfold updPhi
  split
  · rfl
  · rename_i hne
    exact hx i (hi.resolve_right hne)

theorem addD_mono (h : ∀ i, D i → D' i) (n : Nat) : ∀ i, addD D n i → addD D' n i := fun i hi => hi.imp (h i) id

/-- The environment that the interpreter gave is true of the frame. -/
theorem CInv.env (h : CInv C g V I φ0 D0 h0 w0 st M S φ D p a w) {m : Nat} {V' : T Value} (hi : ¬ S i) (hm : ∀ j, bitB m j = true → S j) (hcl : ∀ j mj, S j → g.cls.get j = some mj → ∀ x, bitB mj x = true → S x)
    (hV : ∀ j v, V'.get j = some v → V.get j = some v) : ERel φ D (g.env i m V' M o) a := by
  obtain ⟨h1, h2, h3⟩ := env_spec g i m V' M o
  refine ⟨⟨by rw [h2]; exact h.size, ?_⟩, by rw [h3]; exact h.defers, by rw [h3]; exact h.dok⟩
  intro d v hd
  rcases h1 d v hd with ⟨hn, hb⟩ | ⟨j, hj, hb, hk⟩ | ⟨j, mj, hj, hmj, hb, hbase⟩
  · exact h.base d v hb fun j hj => by rw [hn] at hj; cases hj
  · have hS := hm j hb
    unfold knownA at hk
    split at hk
    · rename_i v' hv'
      cases hk
      have := h.vals j v hS (hV j v hv')
      exact ⟨this.1, this.2 d hj⟩
    · split at hk
      · rename_i f hf
        cases hk
        have := h.mrg j f hS hf
        exact ⟨this.1, this.2 d hj⟩
      · cases hk
  · refine h.base d v hbase fun j' hj' hS => ?_
    rw [hj] at hj'; cases hj'
    exact hi (hcl j mj hS hmj i hb)

/-- An operation has answered a value. -/
theorem CInv.value (hp : Places g.ops g.dm) (h : CInv C g V I φ0 D0 h0 w0 st M S φ D p a w) (ho : g.ops[i]? = some o) (hlt : ∀ d, o.dst = some d → d < g.base.n) (hi : ¬ S i) {v : Value}
    (hV : V.get i = some v) (hI : I.get i = none) (h1 : Inv C φ' D' st' w') (h2 : Ext φ D st.heap w φ' D' st'.heap w') (hv : Ok D' v) :
    CInv C g V I φ0 D0 h0 w0 st' M (fun j => S j ∨ j = i) φ' D' p (a.put o.dst (den φ' v)) w' := by
  have hpg := fun d => put_get a o.dst (den φ' v) d (fun t ht => by rw [h.size]; exact hlt t ht)
  have hdst : ∀ d j, g.dm.get d = some j → j ≠ i → o.dst ≠ some d := fun d j hj hne e => hne (by have := hp.1 i o d ho e; rw [hj] at this; exact Option.some.inj this)
  have hsame : ∀ d, g.dm.get d = some i → o.dst = some d := fun d hd => by
    obtain ⟨o', ho', hd'⟩ := hp.2 d i hd
    rw [ho] at ho'; cases ho'; exact hd'
  have hden : ∀ v, Ok D v → den φ' v = den φ v := fun v hv => den_congr h2.phi v hv
  refine ⟨h1, h.ext.trans h2, by rw [put_size]; exact h.size, ?_, fun d hd => OkD.mono h2.dom d (h.dok d hd), ?_, ?_, ?_, h.sub, ?_, ?_⟩
  · rw [put_defers, h.defers]; exact List.map_congr_left fun d hd => (denD_congr h2.phi d (h.dok d hd)).symm
  · intro d v' hb hno
    have hold := h.base d v' hb fun j hj hS => hno j hj (.inl hS)
    refine ⟨Ok.mono h2.dom v' hold.1, ?_⟩
    rw [hpg, if_neg, hden v' hold.1]
    · exact hold.2
    · intro e; exact hno i (hp.1 i o d ho e) (.inr rfl)
  · intro j v' hS hVj
    by_cases e : j = i
    · subst e
      rw [hV] at hVj; cases hVj
      refine ⟨hv, fun d hd => ?_⟩
      rw [hpg, if_pos (hsame d hd)]
    · have hold := h.vals j v' (hS.resolve_right e) hVj
      refine ⟨Ok.mono h2.dom v' hold.1, fun d hd => ?_⟩
      rw [hpg, if_neg (hdst d j hd e), hden v' hold.1]
      exact hold.2 d hd
  · intro j f hS hMj
    have e : j ≠ i := fun e => by subst e; have := h.sub j f hMj; rw [hI] at this; cases this
    have hold := h.mrg j f (hS.resolve_right e) hMj
    refine ⟨Ok.mono h2.dom _ hold.1, fun d hd => ?_⟩
    rw [hpg, if_neg (hdst d j hd e), hden _ hold.1]
    exact hold.2 d hd
  · intro j f hS hIj hMj
    have e : j ≠ i := fun e => by subst e; rw [hI] at hIj; cases hIj
    obtain ⟨q1, q2, q3, q4, q5⟩ := h.pend j f (hS.resolve_right e) hIj hMj
    refine ⟨q1.mono h2.dom h2.phi (h2.frame _ q1.lt fun i bi hi hw => q2 i bi hi), ?_, q3, Ok.mono (addD_mono h2.dom f.id) _ q4, fun d hd => ?_⟩
    · intro i' bi hi' e'
      obtain ⟨j', bj, hj', ej⟩ := h2.all i' bi hi' (by rw [e']; exact q1.lt)
      exact q2 j' bj hj' (ej.trans e')
    · rw [hpg, if_neg (hdst d j hd e), upd_congr h2.phi f.id (p j) q4]
      exact q5 d hd
  · intro j j' f f' hS hS' hIj hIj' hMj hMj' hne
    have e : j ≠ i := fun e => by subst e; rw [hI] at hIj; cases hIj
    have e' : j' ≠ i := fun e => by subst e; rw [hI] at hIj'; cases hIj'
    exact h.apart j j' f f' (hS.resolve_right e) (hS'.resolve_right e') hIj hIj' hMj hMj' hne

/-- An operation has made a new block, that lies apart for now. -/
theorem CInv.block (hp : Places g.ops g.dm) (h : CInv C g V I φ0 D0 h0 w0 st M S φ D p a w) (ho : g.ops[i]? = some o) (hlt : ∀ d, o.dst = some d → d < g.base.n) (hi : ¬ S i) {f : Info}
    (hV : V.get i = none) (hI : I.get i = some f) (hM : M.get i = none) (hn : ¬ D f.id) {h' : T Blk} (h1 : Rel C φ' (addD D f.id) h' w') (h2 : Ext φ D .nil w φ' (addD D f.id) h' w') (hb : h'.get f.id = some f.b)
    (hnb : noIdB f.id f.b = true) (hv : Ok (addD D f.id) f.v) :
    CInv C g V I φ0 D0 h0 w0 st M (fun j => S j ∨ j = i) φ D (fun j => if j = i then φ' f.id else p j) (a.put o.dst (den φ' f.v)) w' := by
  have hpg := fun d => put_get a o.dst (den φ' f.v) d (fun t ht => by rw [h.size]; exact hlt t ht)
  have hdst : ∀ d j, g.dm.get d = some j → j ≠ i → o.dst ≠ some d := fun d j hj hne e => hne (by have := hp.1 i o d ho e; rw [hj] at this; exact Option.some.inj this)
  have hsame : ∀ d, g.dm.get d = some i → o.dst = some d := fun d hd => by
    obtain ⟨o', ho', hd'⟩ := hp.2 d i hd
    rw [ho] at ho'; cases ho'; exact hd'
  have hkeep : ∀ k, k < w.heap.size → w'.heap[k]? = w.heap[k]? := fun k hk => h2.frame k hk fun i bi hi => by rw [T.get_nil] at hi; cases hi
  have hnew : w.heap.size ≤ (φ' f.id).block := by
    refine Nat.le_of_not_lt fun hl => ?_
    obtain ⟨j, bj, hj, _⟩ := h2.all f.id f.b hb hl
    rw [T.get_nil] at hj; cases hj
  have hsz := h.ext.size
  have hrel : Rel C φ D st.heap w' :=
    ⟨h.inv.1.dom, fun i b hi => (h.inv.1.blk i b hi).mono (fun _ h => h) (fun _ _ => rfl) (hkeep _ (h.inv.1.blk i b hi).lt), h.inv.1.sep, h.inv.1.glob⟩
  have hext : Ext φ D st.heap w φ D st.heap w' :=
    ⟨fun _ h => h, fun _ _ => rfl, h2.size, h2.os, h2.tape, h2.output, fun k hk _ => hkeep k hk, fun i bi hi hw _ => ⟨i, bi, hi, hw, rfl⟩, fun i bi hi _ => ⟨i, bi, hi, rfl⟩⟩
  refine ⟨⟨hrel, h.inv.2⟩, h.ext.trans hext, by rw [put_size]; exact h.size, by rw [put_defers]; exact h.defers, h.dok, ?_, ?_, ?_, h.sub, ?_, ?_⟩
  · intro d v' hb hno
    have hold := h.base d v' hb fun j hj hS => hno j hj (.inl hS)
    refine ⟨hold.1, ?_⟩
    rw [hpg, if_neg]
    · exact hold.2
    · intro e; exact hno i (hp.1 i o d ho e) (.inr rfl)
  · intro j v' hS hVj
    have e : j ≠ i := fun e => by subst e; rw [hV] at hVj; cases hVj
    have hold := h.vals j v' (hS.resolve_right e) hVj
    refine ⟨hold.1, fun d hd => ?_⟩
    rw [hpg, if_neg (hdst d j hd e)]
    exact hold.2 d hd
  · intro j f' hS hMj
    have e : j ≠ i := fun e => by subst e; rw [hM] at hMj; cases hMj
    have hold := h.mrg j f' (hS.resolve_right e) hMj
    refine ⟨hold.1, fun d hd => ?_⟩
    rw [hpg, if_neg (hdst d j hd e)]
    exact hold.2 d hd
  · intro j f' hS hIj hMj
    by_cases e : j = i
    · subst e
      rw [hI] at hIj; cases hIj
      simp only [if_true]
      refine ⟨(h1.blk _ _ hb).unname hnb h2.phi, ?_, by omega, hv, fun d hd => ?_⟩
      · intro i' bi hi' e'
        have := (h.inv.1.blk i' bi hi').lt
        omega
      · rw [hpg, if_pos (hsame d hd)]
        congr 1
        refine den_congr (D := addD D f.id) (fun k hk => ?_) f.v hv
        unfold updPhi
        split
        · rename_i ek; rw [ek]
        · rename_i hne; exact h2.phi k (hk.resolve_right hne)
    · obtain ⟨q1, q2, q3, q4, q5⟩ := h.pend j f' (hS.resolve_right e) hIj hMj
      rw [if_neg e]
      refine ⟨q1.mono (fun _ h => h) (fun _ _ => rfl) (hkeep _ q1.lt), q2, q3, q4, fun d hd => ?_⟩
      rw [hpg, if_neg (hdst d j hd e)]
      exact q5 d hd
  · intro j j' f1 f2 hS hS' hIj hIj' hMj hMj' hne
    by_cases e : j = i
    · subst e
      have e' : j' ≠ j := fun h => hne h.symm
      obtain ⟨q1, _⟩ := h.pend j' f2 (hS'.resolve_right e') hIj' hMj'
      rw [if_pos rfl, if_neg e']
      have := q1.lt
      omega
    · by_cases e' : j' = i
      · subst e'
        obtain ⟨q1, _⟩ := h.pend j f1 (hS.resolve_right e) hIj hMj
        rw [if_neg e, if_pos rfl]
        have := q1.lt
        omega
      · rw [if_neg e, if_neg e']
        exact h.apart j j' f1 f2 (hS.resolve_right e) (hS'.resolve_right e') hIj hIj' hMj hMj' hne

/-- A new block is taken into the heap. -/
theorem CInv.merge (h : CInv C g V I φ0 D0 h0 w0 st M S φ D p a w) {j : Nat} {f : Info} (hS : S j) (hI : I.get j = some f) (hM : M.get j = none) (hid : f.id = st.next) :
    ∃ φ' D', CInv C g V I φ0 D0 h0 w0 (st.new f.b) (M.set j f) S φ' D' p a w := by
  have hn : ¬ D f.id := fun hd => by have := h.inv.2 _ hd; omega
  obtain ⟨q1, q2, q3, q4, q5⟩ := h.pend j f hS hI hM
  have hφ : ∀ i, D i → updPhi φ f.id (p j) i = φ i := fun i hi => by
    unfold updPhi; rw [if_neg]; intro e; subst e; exact hn hi
  have hφn : updPhi φ f.id (p j) f.id = p j := by unfold updPhi; rw [if_pos rfl]
  have hrel := h.inv.1.add hn q1 q2
  have hden : ∀ v, Ok D v → den (updPhi φ f.id (p j)) v = den φ v := fun v hv => den_congr hφ v hv
  have hg : ∀ i bi, (st.heap.set f.id f.b).get i = some bi → i ≠ f.id → st.heap.get i = some bi := fun i bi hi hne => by
    rw [T.get_set, if_neg hne] at hi; exact hi
  have hMg : ∀ x f', (M.set j f).get x = some f' → x ≠ j → M.get x = some f' := fun x f' hx hne => by rw [T.get_set, if_neg hne] at hx; exact hx
  have hMn : ∀ x, (M.set j f).get x = none → x ≠ j ∧ M.get x = none := fun x hx => by
    rw [T.get_set] at hx; split at hx
    · cases hx
    · exact ⟨by assumption, hx⟩
  refine ⟨updPhi φ f.id (p j), addD D f.id, ⟨?_, ?_⟩, ?_, h.size, ?_, fun d hd => OkD.mono (fun _ h => .inl h) d (h.dok d hd), ?_, ?_, ?_, ?_, ?_, ?_⟩
  · simp only [St.new, ← hid]; exact hrel
  · intro i hi
    simp only [St.new]
    rcases hi with hi | hi
    · have := h.inv.2 i hi; omega
    · omega
  · have hx := h.ext
    simp only [St.new, ← hid]
    refine ⟨fun i hi => .inl (hx.dom i hi), fun i hi => (hφ i (hx.dom i hi)).trans (hx.phi i hi), hx.size, hx.os, hx.tape, hx.output, hx.frame, ?_, ?_⟩
    · intro i bi hi hw hl
      by_cases e : i = f.id
      · rw [e, hφn] at hl; omega
      · have hi' := hg i bi hi e
        rw [hφ i (h.inv.1.dom i bi hi')] at hl ⊢
        exact hx.range i bi hi' hw hl
    · intro i bi hi hl
      by_cases e : i = f.id
      · rw [e, hφn] at hl; omega
      · have hi' := hg i bi hi e
        rw [hφ i (h.inv.1.dom i bi hi')] at hl ⊢
        exact hx.all i bi hi' hl
  · rw [h.defers]; exact List.map_congr_left fun d hd => (denD_congr hφ d (h.dok d hd)).symm
  · intro d v hb hno
    have := h.base d v hb hno
    exact ⟨Ok.mono (fun _ h => .inl h) v this.1, by rw [hden v this.1]; exact this.2⟩
  · intro x v hSx hVx
    have := h.vals x v hSx hVx
    exact ⟨Ok.mono (fun _ h => .inl h) v this.1, fun d hd => by rw [hden v this.1]; exact this.2 d hd⟩
  · intro x f' hSx hMx
    by_cases e : x = j
    · subst e
      rw [T.get_set, if_pos rfl] at hMx; cases hMx
      exact ⟨q4, q5⟩
    · have := h.mrg x f' hSx (hMg x f' hMx e)
      exact ⟨Ok.mono (fun _ h => .inl h) _ this.1, fun d hd => by rw [hden _ this.1]; exact this.2 d hd⟩
  · intro x f' hMx
    by_cases e : x = j
    · subst e; rw [T.get_set, if_pos rfl] at hMx; cases hMx; exact hI
    · exact h.sub x f' (hMg x f' hMx e)
  · intro x f' hSx hIx hMx
    obtain ⟨e, hMx'⟩ := hMn x hMx
    obtain ⟨r1, r2, r3, r4, r5⟩ := h.pend x f' hSx hIx hMx'
    refine ⟨r1.mono (fun _ h => .inl h) hφ rfl, ?_, r3, Ok.mono (addD_mono (fun _ h => .inl h) f'.id) _ r4, fun d hd => ?_⟩
    · intro i bi hi
      simp only [St.new, ← hid] at hi
      by_cases ei : i = f.id
      · rw [ei, hφn]; exact h.apart j x f f' hS hSx hI hIx hM hMx' (fun h => e h.symm)
      · have hi' := hg i bi hi ei
        rw [hφ i (h.inv.1.dom i bi hi')]
        exact r2 i bi hi'
    · rw [upd_congr hφ f'.id (p x) r4]
      exact r5 d hd
  · intro x x' f1 f2 hx hx' hIx hIx' hMx hMx' hne
    exact h.apart x x' f1 f2 hx hx' hIx hIx' (hMn x hMx).2 (hMn x' hMx').2 hne

end
end Go.Eng
