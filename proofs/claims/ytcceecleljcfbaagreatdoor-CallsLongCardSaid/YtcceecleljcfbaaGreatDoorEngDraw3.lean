/- The abstract interpreter: regions that draw their order; what holds between two operations. -/
import Derived.Test.YtcceecleljcfbaaGreatDoorEngDraw2
namespace Go.Eng
set_option linter.unusedVariables false
set_option linter.unusedSimpArgs false

section
variable {C : Cx} {P : Program} {g : Rg} {V : T Value} {I : T Info} {φ0 : Phi} {D0 : Nat → Prop} {h0 : T Blk} {w0 : World}

/-- A block that lay apart is taken into the heap. -/
theorem Rel.add {φ : Phi} {D : Nat → Prop} {h : T Blk} {w : World} (hr : Rel C φ D h w) {n : Nat} (hn : ¬ D n) {p : Pl} {b : Blk} (hb : BlkIs C φ D w p b) (hno : ∀ i bi, h.get i = some bi → (φ i).block ≠ p.block) :
    Rel C (updPhi φ n p) (addD D n) (h.set n b) w := by
  have hφ : ∀ i, D i → updPhi φ n p i = φ i := fun i hi => by
    unfold updPhi; rw [if_neg]; intro e; subst e; exact hn hi
  have hφn : updPhi φ n p n = p := by unfold updPhi; rw [if_pos rfl]
  refine ⟨?_, ?_, ?_, ?_⟩
  · intro i bi hi
    rw [T.get_set] at hi
    split at hi
    · rename_i e; exact .inr e
    · exact .inl (hr.dom i bi hi)
  · intro i bi hi
    rw [T.get_set] at hi
    split at hi
    · rename_i e; cases hi; rw [e, hφn]; exact hb.mono (fun _ h => .inl h) hφ rfl
    · rw [hφ i (hr.dom i bi hi)]
      exact (hr.blk i bi hi).mono (fun _ h => .inl h) hφ rfl
  · intro i j bi bj hi hj hw e
    rw [T.get_set] at hi hj
    by_cases ei : i = n <;> by_cases ej : j = n
    · left; omega
    · rw [if_neg ej] at hj
      rw [ei, hφn, hφ j (hr.dom j bj hj)] at e
      exact absurd e.symm (hno j bj hj)
    · rw [if_neg ei] at hi
      rw [ej, hφn, hφ i (hr.dom i bi hi)] at e
      exact absurd e (hno i bi hi)
    · rw [if_neg ei] at hi; rw [if_neg ej] at hj
      rw [hφ i (hr.dom i bi hi), hφ j (hr.dom j bj hj)] at e
      exact hr.sep i j bi bj hi hj hw e
  · intro k hk
    have := hr.glob k hk
    exact ⟨.inl this.1, (hφ k this.1).trans this.2⟩

theorem Rel.congr {φ φ' : Phi} {D : Nat → Prop} {h : T Blk} {w : World} (hr : Rel C φ D h w) (hφ : ∀ i, D i → φ' i = φ i) : Rel C φ' D h w :=
  ⟨hr.dom, fun i b hi => by rw [hφ i (hr.dom i b hi)]; exact (hr.blk i b hi).mono (fun _ h => h) hφ rfl,
   fun i j bi bj hi hj hw e => hr.sep i j bi bj hi hj hw (by rw [← hφ i (hr.dom i bi hi), ← hφ j (hr.dom j bj hj)]; exact e),
   fun g hg => ⟨(hr.glob g hg).1, (hφ g (hr.glob g hg).1).trans (hr.glob g hg).2⟩⟩

theorem Rel.wide {φ : Phi} {D D' : Nat → Prop} {h : T Blk} {w : World} (hr : Rel C φ D h w) (hD : ∀ i, D i → D' i) : Rel C φ D' h w :=
  ⟨fun i b hi => hD i (hr.dom i b hi), fun i b hi => (hr.blk i b hi).mono hD (fun _ _ => rfl) rfl, hr.sep, fun g hg => ⟨hD g (hr.glob g hg).1, (hr.glob g hg).2⟩⟩

theorem TRel.narrow {φ : Phi} {D D' : Nat → Prop} {t : T Value} {n : Nat} {a a' : Array Value} (h : TRel φ D' t n a) (h' : TRel φ D t n a') : TRel φ D t n a :=
  ⟨h.1, fun i v hi => ⟨(h'.2 i v hi).1, (h.2 i v hi).2⟩⟩

/-- Fewer names suffice, if they did before. -/
theorem BlkIs.narrow {φ : Phi} {D D' : Nat → Prop} {w w' : World} {p p' : Pl} {b : Blk} (h : BlkIs C φ D' w' p b) (h' : BlkIs C φ D w p' b) : BlkIs C φ D w' p b := by
  cases b with
  | cells vs elem st par => exact ⟨h'.1, h.2⟩
  | map es clock => exact ⟨h'.1, h.2⟩
  | sIter s pos => exact h
  | mIter m since seen st => exact ⟨h'.1, h.2⟩
  | loop r =>
    obtain ⟨ho, tm, h1, h2⟩ := h
    obtain ⟨ho', tm', h1', _⟩ := h'
    exact ⟨ho', tm, h1.narrow h1', h2⟩
  | deferred ds => exact ⟨h'.1, h.2⟩
  | chan cap buf sent rcvd => exact ⟨h'.1, h.2⟩

theorem Rel.narrow {φ : Phi} {D D' : Nat → Prop} {h : T Blk} {w w' : World} (hr : Rel C φ D' h w') (hr' : Rel C φ D h w) : Rel C φ D h w' :=
  ⟨hr'.dom, fun i b hi => (hr.blk i b hi).narrow (hr'.blk i b hi), hr.sep, hr'.glob⟩

theorem Ext.congr {φ φ' φ'' : Phi} {D D' : Nat → Prop} {h h' : T Blk} {w w' : World} (x : Ext φ D h w φ' D' h' w') (hr : Rel C φ' D' h' w') (hφ : ∀ i, D' i → φ'' i = φ' i) : Ext φ D h w φ'' D' h' w' :=
  ⟨x.dom, fun i hi => (hφ i (x.dom i hi)).trans (x.phi i hi), x.size, x.os, x.tape, x.output, x.frame,
   fun i bi hi hw hl => by rw [hφ i (hr.dom i bi hi)] at hl ⊢; exact x.range i bi hi hw hl,
   fun i bi hi hl => by rw [hφ i (hr.dom i bi hi)] at hl ⊢; exact x.all i bi hi hl⟩

/-- The names that the values of the operations in m may bear: also of new blocks that wait. -/
def DM (I M : T Info) (S D : Nat → Prop) (m : Nat) : Nat → Prop := fun x => D x ∨ ∃ j f, bitB m j = true ∧ S j ∧ I.get j = some f ∧ M.get j = none ∧ x = f.id

theorem DM.mono {M : T Info} {S S' D D' : Nat → Prop} {m m' : Nat} (hD : ∀ i, D i → D' i) (hS : ∀ i, S i → S' i) (hm : ∀ i, bitB m i = true → bitB m' i = true) : ∀ i, DM I M S D m i → DM I M S' D' m' i := by
  rintro i (h | ⟨j, f, h1, h2, h3⟩)
  · exact .inl (hD i h)
  · exact .inr ⟨j, f, hm j h1, hS j h2, h3⟩

/-- The region's new blocks have names of their own. -/
def IOk (V : T Value) (I : T Info) (n nx : Nat) : Prop :=
  ∀ j f, j < n → I.get j = some f → V.get j = none ∧ f.id < nx ∧ ∀ j' f', j' < n → I.get j' = some f' → f.id = f'.id → j = j'

/-- Between two operations: st is the heap, M the new blocks that lie in it, S the operations that have run. -/
structure CInv (C : Cx) (g : Rg) (V : T Value) (I : T Info) (φ0 : Phi) (D0 : Nat → Prop) (h0 : T Blk) (w0 : World) (st : St) (M : T Info) (S : Nat → Prop) (φ : Phi) (D : Nat → Prop) (a : Act) (w : World) : Prop where
  inv : Inv C φ D st w
  ext : Ext φ0 D0 h0 w0 φ D st.heap w
  size : a.tmps.size = g.base.n
  defers : a.defers = g.base.defers.map (denD φ)
  dok : ∀ d ∈ g.base.defers, OkD D d
  base : ∀ d v, g.base.tmps.get d = some v → (∀ j, g.dm.get d = some j → ¬ S j) → Ok D v ∧ a.tmps[d]? = some (den φ v)
  vals : ∀ j v m, S j → V.get j = some v → g.cls.get j = some m → Ok (DM I M S D m) v ∧ ∀ d, g.dm.get d = some j → a.tmps[d]? = some (den φ v)
  mrg : ∀ j f, S j → M.get j = some f → Ok D f.v ∧ ∀ d, g.dm.get d = some j → a.tmps[d]? = some (den φ f.v)
  sub : ∀ j f, M.get j = some f → I.get j = some f
  pend : ∀ j f m, S j → I.get j = some f → M.get j = none → g.cls.get j = some m → BlkIs C φ (DM I M S D m) w (φ f.id) f.b ∧ (∀ i bi, st.heap.get i = some bi → (φ i).block ≠ (φ f.id).block) ∧
    w0.heap.size ≤ (φ f.id).block ∧ Ok (addD (DM I M S D m) f.id) f.v ∧ ∀ d, g.dm.get d = some j → a.tmps[d]? = some (den φ f.v)
  apart : ∀ j j' f f', S j → S j' → I.get j = some f → I.get j' = some f' → M.get j = none → M.get j' = none → j ≠ j' → (φ f.id).block ≠ (φ f'.id).block
  fresh : ∀ j f, j < g.ops.length → I.get j = some f → M.get j = none → st.next ≤ f.id
  lt : ∀ j, S j → j < g.ops.length

variable {st st' : St} {M : T Info} {S : Nat → Prop} {φ φ' : Phi} {D D' : Nat → Prop} {a : Act} {w w' : World} {i : Nat} {o : Oper}

theorem put_get (a : Act) (dst : Option Tmp) (x : Value) (d : Nat) (h : ∀ t, dst = some t → t < a.tmps.size) : (a.put dst x).tmps[d]? = if dst = some d then some x else a.tmps[d]? := by
  cases dst with
  | none => rw [if_neg (by simp)]; rfl
  | some t =>
    simp only [Act.put]
    by_cases e : t = d
    · subst e
      rw [if_pos rfl, Array.getElem?_setIfInBounds_self_of_lt (h _ rfl)]
    · rw [if_neg (by simpa using e), Array.getElem?_setIfInBounds_ne e]

theorem put_size (a : Act) (dst : Option Tmp) (x : Value) : (a.put dst x).tmps.size = a.tmps.size := by
  cases dst <;> simp [Act.put]
theorem put_defers (a : Act) (dst : Option Tmp) (x : Value) : (a.put dst x).defers = a.defers := by
  cases dst <;> rfl

theorem addD_mono (h : ∀ i, D i → D' i) (n : Nat) : ∀ i, addD D n i → addD D' n i := fun i hi => hi.imp (h i) id

/-- Names that wait are none of the heap's. -/
theorem CInv.notD (h : CInv C g V I φ0 D0 h0 w0 st M S φ D a w) {j : Nat} {f : Info} (hj : S j) (hI : I.get j = some f) (hM : M.get j = none) : ¬ D f.id := fun hd => by
  have := h.inv.2 _ hd
  have := h.fresh j f (h.lt j hj) hI hM
  omega

theorem CInv.pcls (hcl : ∀ j, j < g.ops.length → ∃ m, g.cls.get j = some m) (h : CInv C g V I φ0 D0 h0 w0 st M S φ D a w) {j : Nat} (hj : S j) : ∃ m, g.cls.get j = some m := hcl j (h.lt j hj)

/-- The environment that the interpreter gave is true of the frame. -/
theorem CInv.env (hcl0 : ∀ j, j < g.ops.length → ∃ m, g.cls.get j = some m) (h : CInv C g V I φ0 D0 h0 w0 st M S φ D a w) {m : Nat} {V' : T Value} {I' : T Info} (hi : ¬ S i) (hm : ∀ j, bitB m j = true → S j)
    (htr : ∀ j, bitB m j = true → ∀ mj, g.cls.get j = some mj → ∀ x, bitB mj x = true → bitB m x = true) (hcl : ∀ j mj, S j → g.cls.get j = some mj → ∀ x, bitB mj x = true → S x)
    (hV : ∀ j v, V'.get j = some v → V.get j = some v) (hI' : ∀ j f, I'.get j = some f → I.get j = some f) : ERel φ (DM I M S D m) (g.env i m V' I' o) a := by
  obtain ⟨h1, h2, h3⟩ := env_spec g i m V' I' o
  refine ⟨⟨by rw [h2]; exact h.size, ?_⟩, by rw [h3]; exact h.defers, by rw [h3]; exact fun d hd => OkD.mono (fun _ h => .inl h) d (h.dok d hd)⟩
  intro d v hd
  have base : ∀ (hno : ∀ j, g.dm.get d = some j → ¬ S j) (hb : g.base.tmps.get d = some v), Ok (DM I M S D m) v ∧ a.tmps[d]? = some (den φ v) := fun hno hb => by
    have := h.base d v hb hno
    exact ⟨Ok.mono (fun _ h => .inl h) v this.1, this.2⟩
  rcases h1 d v hd with ⟨hn, hb⟩ | ⟨j, hj, hb, hk⟩ | ⟨j, mj, hj, hmj, hb, hbase⟩
  · exact base (fun j hj => by rw [hn] at hj; cases hj) hb
  · have hS := hm j hb
    obtain ⟨mj, hmj⟩ := h.pcls hcl0 hS
    unfold knownA at hk
    split at hk
    · rename_i v' hv'
      cases hk
      have := h.vals j v mj hS (hV j v hv') hmj
      exact ⟨Ok.mono (DM.mono (fun _ h => h) (fun _ h => h) (htr j hb mj hmj)) v this.1, this.2 d hj⟩
    · split at hk
      · rename_i f hf
        cases hk
        have hIf := hI' j f hf
        cases hMj : M.get j with
        | some f' =>
          have := h.sub j f' hMj
          rw [hIf] at this; cases this
          have := h.mrg j f hS hMj
          exact ⟨Ok.mono (fun _ h => .inl h) _ this.1, this.2 d hj⟩
        | none =>
          obtain ⟨_, _, _, q4, q5⟩ := h.pend j f mj hS hIf hMj hmj
          refine ⟨Ok.mono (fun x hx => ?_) _ q4, q5 d hj⟩
          rcases hx with hx | hx
          · exact DM.mono (fun _ h => h) (fun _ h => h) (htr j hb mj hmj) x hx
          · exact .inr ⟨j, f, hb, hS, hIf, hMj, hx⟩
      · cases hk
  · exact base (fun j' hj' hS => by
      rw [hj] at hj'; cases hj'
      exact hi (hcl j mj hS hmj i hb)) hbase

/-- An operation has answered a value. -/
theorem CInv.step (hp : Places g.ops g.dm) (h : CInv C g V I φ0 D0 h0 w0 st M S φ D a w) (hcl0 : ∀ j, j < g.ops.length → ∃ m, g.cls.get j = some m) (ho : g.ops[i]? = some o) (hlt : ∀ d, o.dst = some d → d < g.base.n) (hi : ¬ S i) {v : Value} {m : Nat}
    (hcl : ∀ j mj, S j → g.cls.get j = some mj → ∀ x, bitB mj x = true → S x)
    (hV : V.get i = some v) (hI : I.get i = none) (hmi : g.cls.get i = some m) (h1 : Inv C φ' D' st' w') (hx : Ext φ0 D0 h0 w0 φ' D' st'.heap w') (hD : ∀ x, D x → D' x) (hφ : ∀ x, D x → φ' x = φ x)
    (hφU : ∀ j f, S j → I.get j = some f → M.get j = none → φ' f.id = φ f.id)
    (hkeep : ∀ j f, S j → I.get j = some f → M.get j = none → w'.heap[(φ f.id).block]? = w.heap[(φ f.id).block]? ∧ ∀ i bi, st'.heap.get i = some bi → (φ' i).block ≠ (φ f.id).block)
    (hfr : ∀ j f, j < g.ops.length → I.get j = some f → M.get j = none → st'.next ≤ f.id) (hv : Ok (DM I M S D' m) v) :
    CInv C g V I φ0 D0 h0 w0 st' M (fun j => S j ∨ j = i) φ' D' (a.put o.dst (den φ' v)) w' := by
  have hpg := fun d => put_get a o.dst (den φ' v) d (fun t ht => by rw [h.size]; exact hlt t ht)
  have hdst : ∀ d j, g.dm.get d = some j → j ≠ i → o.dst ≠ some d := fun d j hj hne e => hne (by have := hp.1 i o d ho e; rw [hj] at this; exact Option.some.inj this)
  have hsame : ∀ d, g.dm.get d = some i → o.dst = some d := fun d hd => by
    obtain ⟨o', ho', hd'⟩ := hp.2 d i hd
    rw [ho] at ho'; cases ho'; exact hd'
  have hden : ∀ v, Ok D v → den φ' v = den φ v := fun v hv => den_congr hφ v hv
  have hDM : ∀ mj x, DM I M S D mj x → φ' x = φ x := by
    rintro mj x (hx | ⟨j, f, _, hS, hI, hM, rfl⟩)
    · exact hφ x hx
    · exact hφU j f hS hI hM
  have hDM' : ∀ mj x, DM I M S D mj x → DM I M (fun j => S j ∨ j = i) D' mj x := fun mj => DM.mono hD (fun _ h => .inl h) (fun _ h => h)
  refine ⟨h1, hx, by rw [put_size]; exact h.size, ?_, fun d hd => OkD.mono hD d (h.dok d hd), ?_, ?_, ?_, h.sub, ?_, ?_, hfr, ?_⟩
  · rw [put_defers, h.defers]; exact List.map_congr_left fun d hd => (denD_congr hφ d (h.dok d hd)).symm
  · intro d v' hb hno
    have hold := h.base d v' hb fun j hj hS => hno j hj (.inl hS)
    refine ⟨Ok.mono hD v' hold.1, ?_⟩
    rw [hpg, if_neg, hden v' hold.1]
    · exact hold.2
    · intro e; exact hno i (hp.1 i o d ho e) (.inr rfl)
  · intro j v' mj hS hVj hmj
    by_cases e : j = i
    · subst e
      rw [hV] at hVj; cases hVj
      rw [hmi] at hmj; cases hmj
      refine ⟨Ok.mono (DM.mono (fun _ h => h) (fun _ h => .inl h) (fun _ h => h)) v hv, fun d hd => ?_⟩
      rw [hpg, if_pos (hsame d hd)]
    · have hold := h.vals j v' mj (hS.resolve_right e) hVj hmj
      refine ⟨Ok.mono (hDM' mj) v' hold.1, fun d hd => ?_⟩
      rw [hpg, if_neg (hdst d j hd e), den_congr (hDM mj) v' hold.1]
      exact hold.2 d hd
  · intro j f hS hMj
    have e : j ≠ i := fun e => by subst e; have := h.sub j f hMj; rw [hI] at this; cases this
    have hold := h.mrg j f (hS.resolve_right e) hMj
    refine ⟨Ok.mono hD _ hold.1, fun d hd => ?_⟩
    rw [hpg, if_neg (hdst d j hd e), hden _ hold.1]
    exact hold.2 d hd
  · intro j f mj hS hIj hMj hmj
    have e : j ≠ i := fun e => by subst e; rw [hI] at hIj; cases hIj
    have hSj := hS.resolve_right e
    obtain ⟨q1, q2, q3, q4, q5⟩ := h.pend j f mj hSj hIj hMj hmj
    have hid := hφU j f hSj hIj hMj
    obtain ⟨k1, k2⟩ := hkeep j f hSj hIj hMj
    rw [hid]
    refine ⟨q1.mono (hDM' mj) (hDM mj) k1, k2, q3, Ok.mono (addD_mono (hDM' mj) f.id) _ q4, fun d hd => ?_⟩
    rw [hpg, if_neg (hdst d j hd e), den_congr (D := addD (DM I M S D mj) f.id) (fun x hx => ?_) f.v q4]
    · exact q5 d hd
    · rcases hx with hx | hx
      · exact hDM mj x hx
      · rw [hx]; exact hid
  · intro j j' f f' hS hS' hIj hIj' hMj hMj' hne
    have e : j ≠ i := fun e => by subst e; rw [hI] at hIj; cases hIj
    have e' : j' ≠ i := fun e => by subst e; rw [hI] at hIj'; cases hIj'
    rw [hφU j f (hS.resolve_right e) hIj hMj, hφU j' f' (hS'.resolve_right e') hIj' hMj']
    exact h.apart j j' f f' (hS.resolve_right e) (hS'.resolve_right e') hIj hIj' hMj hMj' hne
  · rintro j (hj | rfl)
    · exact h.lt j hj
    · exact (List.getElem?_eq_some_iff.1 ho).1

open Classical in
/-- A heavy operation has answered a value. -/
theorem CInv.heavy (hp : Places g.ops g.dm) (h : CInv C g V I φ0 D0 h0 w0 st M S φ D a w) (hcl0 : ∀ j, j < g.ops.length → ∃ m, g.cls.get j = some m) (ho : g.ops[i]? = some o) (hlt : ∀ d, o.dst = some d → d < g.base.n) (hi : ¬ S i) {v : Value} {m : Nat}
    (hcl : ∀ j mj, S j → g.cls.get j = some mj → ∀ x, bitB mj x = true → S x)
    (hV : V.get i = some v) (hI : I.get i = none) (hmi : g.cls.get i = some m) (h1 : Inv C φ' D' st' w') (h2 : Ext φ D st.heap w φ' D' st'.heap w') (hv : Ok D' v)
    (hfr : ∀ j f, j < g.ops.length → I.get j = some f → M.get j = none → st'.next ≤ f.id) :
    ∃ φ2, (∀ x, D' x → φ2 x = φ' x) ∧ CInv C g V I φ0 D0 h0 w0 st' M (fun j => S j ∨ j = i) φ2 D' (a.put o.dst (den φ2 v)) w' := by
  let φ2 : Phi := fun x => if ∃ j f, S j ∧ I.get j = some f ∧ M.get j = none ∧ x = f.id then φ x else φ' x
  have e1 : ∀ x, D' x → φ2 x = φ' x := fun x hx => by
    show (if _ then _ else _) = _
    rw [if_neg]
    rintro ⟨j, f, hS, hIj, hMj, rfl⟩
    have := h1.2 _ hx
    have := hfr j f (h.lt j hS) hIj hMj
    omega
  have e2 : ∀ j f, S j → I.get j = some f → M.get j = none → φ2 f.id = φ f.id := fun j f hS hIj hMj => by
    show (if _ then _ else _) = _
    rw [if_pos ⟨j, f, hS, hIj, hMj, rfl⟩]
  have h1' : Inv C φ2 D' st' w' := ⟨h1.1.congr e1, h1.2⟩
  refine ⟨φ2, e1, h.step hp hcl0 ho hlt hi hcl hV hI hmi h1' ((h.ext.trans h2).congr h1.1 e1) h2.dom (fun x hx => (e1 x (h2.dom x hx)).trans (h2.phi x hx)) e2 ?_ hfr (Ok.mono (fun _ h => .inl h) v hv)⟩
  intro j f hS hIj hMj
  obtain ⟨mj, hmj⟩ := h.pcls hcl0 hS
  obtain ⟨q1, q2, q3, q4, q5⟩ := h.pend j f mj hS hIj hMj hmj
  refine ⟨h2.frame _ q1.lt fun i bi hi hw => q2 i bi hi, fun i' bi hi' e' => ?_⟩
  rw [e1 i' (h1.1.dom i' bi hi')] at e'
  obtain ⟨j', bj, hj', ej⟩ := h2.all i' bi hi' (by rw [e']; exact q1.lt)
  exact q2 j' bj hj' (ej.trans e')

/-- A quiet operation has answered a value. -/
theorem CInv.quiet (hp : Places g.ops g.dm) (h : CInv C g V I φ0 D0 h0 w0 st M S φ D a w) (hcl0 : ∀ j, j < g.ops.length → ∃ m, g.cls.get j = some m) (ho : g.ops[i]? = some o) (hlt : ∀ d, o.dst = some d → d < g.base.n) (hi : ¬ S i) {v : Value} {m : Nat}
    (hcl : ∀ j mj, S j → g.cls.get j = some mj → ∀ x, bitB mj x = true → S x)
    (hV : V.get i = some v) (hI : I.get i = none) (hmi : g.cls.get i = some m) (h1 : Rel C φ' (DM I M S D m) st.heap w') (h2 : Ext φ (DM I M S D m) st.heap w φ' (DM I M S D m) st.heap w') (hv : Ok (DM I M S D m) v) :
    CInv C g V I φ0 D0 h0 w0 st M (fun j => S j ∨ j = i) φ D (a.put o.dst (den φ v)) w' := by
  have h1' : Rel C φ D st.heap w' := (h1.congr (φ' := φ) fun x hx => (h2.phi x hx).symm).narrow h.inv.1
  have h2' : Ext φ D st.heap w φ D st.heap w' := ⟨fun _ h => h, fun _ _ => rfl, h2.size, h2.os, h2.tape, h2.output, h2.frame, fun i bi hi hw _ => ⟨i, bi, hi, hw, rfl⟩, fun i bi hi _ => ⟨i, bi, hi, rfl⟩⟩
  refine h.step hp hcl0 ho hlt hi hcl hV hI hmi ⟨h1', h.inv.2⟩ (h.ext.trans h2') (fun _ h => h) (fun _ _ => rfl) (fun _ _ _ _ _ => rfl) ?_ h.fresh hv
  intro j f hS hIj hMj
  obtain ⟨mj, hmj⟩ := h.pcls hcl0 hS
  obtain ⟨q1, q2, q3, q4, q5⟩ := h.pend j f mj hS hIj hMj hmj
  exact ⟨h2.frame _ q1.lt fun i bi hi hw => q2 i bi hi, q2⟩

/-- An operation has made a new block, that lies apart for now. -/
theorem CInv.block {nx : Nat} (hp : Places g.ops g.dm) (h : CInv C g V I φ0 D0 h0 w0 st M S φ D a w) (hIO : IOk V I g.ops.length nx) (hcl0 : ∀ j, j < g.ops.length → ∃ m, g.cls.get j = some m) (ho : g.ops[i]? = some o) (hlt : ∀ d, o.dst = some d → d < g.base.n) (hi : ¬ S i) {f : Info} {m : Nat}
    (hI : I.get i = some f) (hM : M.get i = none) (hmi : g.cls.get i = some m) {h' : T Blk} (h1 : Rel C φ' (addD (DM I M S D m) f.id) h' w')
    (h2 : Ext φ (DM I M S D m) .nil w φ' (addD (DM I M S D m) f.id) h' w') (hb : h'.get f.id = some f.b)
    (hnb : noIdB f.id f.b = true) (hv : Ok (addD (DM I M S D m) f.id) f.v) :
    ∃ φ2, den φ2 f.v = den φ' f.v ∧ (∀ x, D x → φ2 x = φ x) ∧ CInv C g V I φ0 D0 h0 w0 st M (fun j => S j ∨ j = i) φ2 D (a.put o.dst (den φ2 f.v)) w' := by
  have hil : i < g.ops.length := (List.getElem?_eq_some_iff.1 ho).1
  obtain ⟨hVi, _, huniq⟩ := hIO i f hil hI
  have hnD : ¬ D f.id := fun hd => by
    have := h.inv.2 _ hd
    have := h.fresh i f hil hI hM
    omega
  have hne : ∀ j f', S j → I.get j = some f' → f'.id ≠ f.id := fun j f' hS hIj e => by
    have := huniq j f' (h.lt j hS) hIj e.symm
    subst this; exact hi hS
  have hnDM : ∀ mj, ¬ DM I M S D mj f.id := fun mj hd => by
    rcases hd with hd | ⟨j, f', _, hS, hIj, _, e⟩
    · exact hnD hd
    · exact hne j f' hS hIj e.symm
  let φ2 : Phi := updPhi φ f.id (φ' f.id)
  have e0 : φ2 f.id = φ' f.id := by show updPhi _ _ _ _ = _; unfold updPhi; rw [if_pos rfl]
  have eo : ∀ x, x ≠ f.id → φ2 x = φ x := fun x hx => by show updPhi _ _ _ _ = _; unfold updPhi; rw [if_neg hx]
  have eD : ∀ x, D x → φ2 x = φ x := fun x hx => eo x fun e => hnD (e ▸ hx)
  have eDM : ∀ mj x, DM I M S D mj x → φ2 x = φ x := fun mj x hx => eo x fun e => hnDM mj (e ▸ hx)
  have eall : ∀ x, addD (DM I M S D m) f.id x → φ2 x = φ' x := by
    rintro x (hx | rfl)
    · rw [eDM m x hx, h2.phi x hx]
    · exact e0
  have hden : den φ2 f.v = den φ' f.v := den_congr eall f.v hv
  have hpg := fun d => put_get a o.dst (den φ2 f.v) d (fun t ht => by rw [h.size]; exact hlt t ht)
  have hdst : ∀ d j, g.dm.get d = some j → j ≠ i → o.dst ≠ some d := fun d j hj hne e => hne (by have := hp.1 i o d ho e; rw [hj] at this; exact Option.some.inj this)
  have hsame : ∀ d, g.dm.get d = some i → o.dst = some d := fun d hd => by
    obtain ⟨o', ho', hd'⟩ := hp.2 d i hd
    rw [ho] at ho'; cases ho'; exact hd'
  have hkeep : ∀ k, k < w.heap.size → w'.heap[k]? = w.heap[k]? := fun k hk => h2.frame k hk fun i bi hi => by rw [T.get_nil] at hi; cases hi
  have hnew : w.heap.size ≤ (φ' f.id).block := by
    refine Nat.le_of_not_lt fun hl => ?_
    obtain ⟨j, bj, hj, _⟩ := h2.all f.id f.b hb hl
    rw [T.get_nil] at hj; cases hj
  have hsz := h.ext.size
  have hrel : Rel C φ D st.heap w' :=
    ⟨h.inv.1.dom, fun i b hi => (h.inv.1.blk i b hi).mono (fun _ h => h) (fun _ _ => rfl) (hkeep _ (h.inv.1.blk i b hi).lt), h.inv.1.sep, h.inv.1.glob⟩
  have hext : Ext φ D st.heap w φ D st.heap w' :=
    ⟨fun _ h => h, fun _ _ => rfl, h2.size, h2.os, h2.tape, h2.output, fun k hk _ => hkeep k hk, fun i bi hi hw _ => ⟨i, bi, hi, hw, rfl⟩, fun i bi hi _ => ⟨i, bi, hi, rfl⟩⟩
  have hDM' : ∀ mj x, DM I M S D mj x → DM I M (fun j => S j ∨ j = i) D mj x := fun mj => DM.mono (fun _ h => h) (fun _ h => .inl h) (fun _ h => h)
  refine ⟨φ2, hden, eD, ⟨hrel.congr eD, h.inv.2⟩, (h.ext.trans hext).congr hrel eD, by rw [put_size]; exact h.size, ?_, h.dok, ?_, ?_, ?_, h.sub, ?_, ?_, h.fresh, ?_⟩
  · rw [put_defers, h.defers]; exact List.map_congr_left fun d hd => (denD_congr eD d (h.dok d hd)).symm
  · intro d v' hb hno
    have hold := h.base d v' hb fun j hj hS => hno j hj (.inl hS)
    refine ⟨hold.1, ?_⟩
    rw [hpg, if_neg, den_congr eD v' hold.1]
    · exact hold.2
    · intro e; exact hno i (hp.1 i o d ho e) (.inr rfl)
  · intro j v' mj hS hVj hmj
    have e : j ≠ i := fun e => by subst e; rw [hVi] at hVj; cases hVj
    have hold := h.vals j v' mj (hS.resolve_right e) hVj hmj
    refine ⟨Ok.mono (hDM' mj) v' hold.1, fun d hd => ?_⟩
    rw [hpg, if_neg (hdst d j hd e), den_congr (eDM mj) v' hold.1]
    exact hold.2 d hd
  · intro j f' hS hMj
    have e : j ≠ i := fun e => by subst e; rw [hM] at hMj; cases hMj
    have hold := h.mrg j f' (hS.resolve_right e) hMj
    refine ⟨hold.1, fun d hd => ?_⟩
    rw [hpg, if_neg (hdst d j hd e), den_congr eD _ hold.1]
    exact hold.2 d hd
  · intro j f' mj hS hIj hMj hmj
    by_cases e : j = i
    · subst e
      rw [hI] at hIj; cases hIj
      rw [hmi] at hmj; cases hmj
      rw [e0]
      refine ⟨((h1.blk _ _ hb).unname hnb h2.phi).mono (hDM' m) (eDM m) rfl, ?_, by omega, Ok.mono (addD_mono (hDM' m) f.id) _ hv, fun d hd => ?_⟩
      · intro i' bi hi' e'
        rw [eD i' (h.inv.1.dom i' bi hi')] at e'
        have := (h.inv.1.blk i' bi hi').lt
        omega
      · rw [hpg, if_pos (hsame d hd)]
    · have hSj := hS.resolve_right e
      obtain ⟨q1, q2, q3, q4, q5⟩ := h.pend j f' mj hSj hIj hMj hmj
      have ej : φ2 f'.id = φ f'.id := eo _ (hne j f' hSj hIj)
      rw [ej]
      refine ⟨q1.mono (hDM' mj) (eDM mj) (hkeep _ q1.lt), fun i' bi hi' => by rw [eD i' (h.inv.1.dom i' bi hi')]; exact q2 i' bi hi', q3, Ok.mono (addD_mono (hDM' mj) f'.id) _ q4, fun d hd => ?_⟩
      rw [hpg, if_neg (hdst d j hd e), den_congr (D := addD (DM I M S D mj) f'.id) (fun x hx => ?_) f'.v q4]
      · exact q5 d hd
      · rcases hx with hx | hx
        · exact eDM mj x hx
        · rw [hx]; exact ej
  · intro j j' f1 f2 hS hS' hIj hIj' hMj hMj' hne'
    have old : ∀ j f1, S j → I.get j = some f1 → M.get j = none → φ2 f1.id = φ f1.id ∧ (φ f1.id).block < w.heap.size := fun j f1 hS hIj hMj => by
      obtain ⟨mj, hmj⟩ := h.pcls hcl0 hS
      exact ⟨eo _ (hne j f1 hS hIj), (h.pend j f1 mj hS hIj hMj hmj).1.lt⟩
    by_cases e : j = i
    · subst e
      rw [hI] at hIj; cases hIj
      have e' : j' ≠ j := fun h => hne' h.symm
      obtain ⟨k1, k2⟩ := old j' f2 (hS'.resolve_right e') hIj' hMj'
      rw [k1, e0]; omega
    · by_cases e' : j' = i
      · subst e'
        rw [hI] at hIj'; cases hIj'
        obtain ⟨k1, k2⟩ := old j f1 (hS.resolve_right e) hIj hMj
        rw [k1, e0]; omega
      · rw [(old j f1 (hS.resolve_right e) hIj hMj).1, (old j' f2 (hS'.resolve_right e') hIj' hMj').1]
        exact h.apart j j' f1 f2 (hS.resolve_right e) (hS'.resolve_right e') hIj hIj' hMj hMj' hne'
  · rintro j (hj | rfl)
    · exact h.lt j hj
    · exact hil

/-- A new block is taken into the heap. -/
theorem CInv.merge {nx : Nat} (h : CInv C g V I φ0 D0 h0 w0 st M S φ D a w) (hIO : IOk V I g.ops.length nx) {j m : Nat} {f : Info} (hS : S j) (hI : I.get j = some f) (hM : M.get j = none) (hid : f.id = st.next) (hmj : g.cls.get j = some m)
    (hdep : ∀ x f', S x → bitB m x = true → I.get x = some f' → M.get x ≠ none) :
    ∃ D', CInv C g V I φ0 D0 h0 w0 (st.new f.b) (M.set j f) S φ D' a w := by
  have hn : ¬ D f.id := fun hd => by have := h.inv.2 _ hd; omega
  have hDMm : ∀ x, DM I M S D m x → D x := by
    rintro x (hx | ⟨j', f', hb, hS', hI', hM', _⟩)
    · exact hx
    · exact absurd hM' (hdep j' f' hS' hb hI')
  obtain ⟨q1, q2, q3, q4, q5⟩ := h.pend j f m hS hI hM hmj
  have q1' : BlkIs C φ D w (φ f.id) f.b := q1.mono hDMm (fun _ _ => rfl) rfl
  have q4' : Ok (addD D f.id) f.v := Ok.mono (addD_mono hDMm f.id) _ q4
  have hupd : updPhi φ f.id (φ f.id) = φ := by
    funext x; unfold updPhi; split
    · rename_i e; rw [e]
    · rfl
  have hrel := h.inv.1.add hn q1' q2
  rw [hupd] at hrel
  have hg : ∀ i bi, (st.heap.set f.id f.b).get i = some bi → i ≠ f.id → st.heap.get i = some bi := fun i bi hi hne => by
    rw [T.get_set, if_neg hne] at hi; exact hi
  have hMg : ∀ x f', (M.set j f).get x = some f' → x ≠ j → M.get x = some f' := fun x f' hx hne => by rw [T.get_set, if_neg hne] at hx; exact hx
  have hMn : ∀ x, (M.set j f).get x = none → x ≠ j ∧ M.get x = none := fun x hx => by
    rw [T.get_set] at hx; split at hx
    · cases hx
    · exact ⟨by assumption, hx⟩
  have hDM' : ∀ mj x, DM I M S D mj x → DM I (M.set j f) S (addD D f.id) mj x := by
    rintro mj x (hx | ⟨j', f', hb, hS', hI', hM', rfl⟩)
    · exact .inl (.inl hx)
    · by_cases e : j' = j
      · subst e; rw [hI] at hI'; cases hI'; exact .inl (.inr rfl)
      · exact .inr ⟨j', f', hb, hS', hI', by rw [T.get_set, if_neg e]; exact hM', rfl⟩
  refine ⟨addD D f.id, ⟨?_, ?_⟩, ?_, h.size, h.defers, fun d hd => OkD.mono (fun _ h => .inl h) d (h.dok d hd), ?_, ?_, ?_, ?_, ?_, ?_, ?_, h.lt⟩
  · simp only [St.new, ← hid]; exact hrel
  · intro i hi
    simp only [St.new]
    rcases hi with hi | hi
    · have := h.inv.2 i hi; omega
    · omega
  · have hx := h.ext
    simp only [St.new, ← hid]
    refine ⟨fun i hi => .inl (hx.dom i hi), hx.phi, hx.size, hx.os, hx.tape, hx.output, hx.frame, ?_, ?_⟩
    · intro i bi hi hw hl
      by_cases e : i = f.id
      · rw [e] at hl; omega
      · exact hx.range i bi (hg i bi hi e) hw hl
    · intro i bi hi hl
      by_cases e : i = f.id
      · rw [e] at hl; omega
      · exact hx.all i bi (hg i bi hi e) hl
  · intro d v hb hno
    have := h.base d v hb hno
    exact ⟨Ok.mono (fun _ h => .inl h) v this.1, this.2⟩
  · intro x v mx hSx hVx hmx
    have := h.vals x v mx hSx hVx hmx
    exact ⟨Ok.mono (hDM' mx) v this.1, this.2⟩
  · intro x f' hSx hMx
    by_cases e : x = j
    · subst e
      rw [T.get_set, if_pos rfl] at hMx; cases hMx
      exact ⟨q4', q5⟩
    · have := h.mrg x f' hSx (hMg x f' hMx e)
      exact ⟨Ok.mono (fun _ h => .inl h) _ this.1, this.2⟩
  · intro x f' hMx
    by_cases e : x = j
    · subst e; rw [T.get_set, if_pos rfl] at hMx; cases hMx; exact hI
    · exact h.sub x f' (hMg x f' hMx e)
  · intro x f' mx hSx hIx hMx hmx
    obtain ⟨e, hMx'⟩ := hMn x hMx
    obtain ⟨r1, r2, r3, r4, r5⟩ := h.pend x f' mx hSx hIx hMx' hmx
    refine ⟨r1.mono (hDM' mx) (fun _ _ => rfl) rfl, ?_, r3, Ok.mono (addD_mono (hDM' mx) f'.id) _ r4, r5⟩
    intro i bi hi
    simp only [St.new, ← hid] at hi
    by_cases ei : i = f.id
    · rw [ei]; exact h.apart j x f f' hS hSx hI hIx hM hMx' (fun h => e h.symm)
    · exact r2 i bi (hg i bi hi ei)
  · intro x x' f1 f2 hx hx' hIx hIx' hMx hMx' hne
    exact h.apart x x' f1 f2 hx hx' hIx hIx' (hMn x hMx).2 (hMn x' hMx').2 hne
  · intro x f' hxl hIx hMx
    obtain ⟨e, hMx'⟩ := hMn x hMx
    have h1 := h.fresh x f' hxl hIx hMx'
    have h2 : f'.id ≠ f.id := fun e' => e ((hIO x f' hxl hIx).2.2 j f (h.lt j hS) hI e')
    simp only [St.new]
    omega

end
end Go.Eng
