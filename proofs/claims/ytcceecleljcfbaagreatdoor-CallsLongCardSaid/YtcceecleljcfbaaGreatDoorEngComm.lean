/- The abstract interpreter: communication in one goroutine. -/
import Derived.Test.YtcceecleljcfbaaGreatDoorEngCtl1
import Derived.Conc.LoneCalls
import Derived.Conc.LoneSelect
namespace Go.Eng
set_option linter.unusedVariables false
set_option linter.unusedSimpArgs false

section
variable {P : Program} {b : Frame} {a : Act} {k : List Item} {cs : List Frame} {w : World}

theorem stepG_comm {ops : Array Oper} {i : Nat} {rest : List Nat} {o : Oper} (ho : ops[i]? = some o) (hw : Region.wanted o (yielded ops a.tmps) = true)
    (hd : ∀ c, o.op ≠ .defer c) {cases : Array CommCase} {bl : Bool} {shape : CommShape} {w' : World} (hr : (execOp a.eval o).run P w = .ok (.comm cases bl shape) w') :
    ∃ es, stepG P true (Conc.G (fat b a (.inRegion ops (i :: rest) :: k)) cs) w = .comm (Conc.G (fat b a (.inRegion ops (i :: rest) :: k)) cs) cases bl shape w' es := by
  have h1 : stepG P true (Conc.G (fat b a (.inRegion ops (i :: rest) :: k)) cs) w = stepG.apply P true (fat b a (.inRegion ops (i :: rest) :: k)) cs none (execOp a.eval o) w := stepG_opF ho hw (.inr hd)
  rw [h1]
  simp only [stepG.apply, Sem.runT_eq, hr]
  exact ⟨_, rfl⟩

theorem fin_fat {ops : Array Oper} {i : Nat} {rest : List Nat} {o : Oper} (ho : ops[i]? = some o) (v : Value) : (fat b a (.inRegion ops (i :: rest) :: k)).finish v = fat b (a.put o.dst v) (.inRegion ops rest :: k) := by
  have hf := finish_fat b a ops i rest k v
  rw [ho] at hf
  simpa using hf

variable {C : Cx} {φ : Phi} {D : Nat → Prop} {s : St} {e : E}

theorem chan_set (hr : Rel C φ D s.heap w) {r cap sent rcvd sent' rcvd' : Nat} {buf buf' : List Value} (hb : s.heap.get r = some (.chan cap buf sent rcvd)) (hok : OkL D buf') :
    Rel C φ D (s.heap.set r (.chan cap buf' sent' rcvd')) (w.setChan (φ r).block cap (denL φ buf').toArray false sent' rcvd' false) ∧
    Ext φ D s.heap w φ D (s.heap.set r (.chan cap buf' sent' rcvd')) (w.setChan (φ r).block cap (denL φ buf').toArray false sent' rcvd' false) := by
  obtain ⟨_, h1⟩ := hr.blk r _ hb
  exact hr.setObj (o := .chan cap (denL φ buf').toArray false sent' rcvd' false) hb rfl rfl rfl ⟨hok, setB_same (heap_lt h1)⟩

noncomputable def commA' (C : Cx) (e : E) (o : Oper) (s : St) : Option (Value × St) :=
  match o.op with
  | .send ch x => match e.eval C ch, e.eval C x with
    | some ch, some v => match sendA s ch v with
      | some s => some (undef, s)
      | none => none
    | _, _ => none
  | .recv t ch ok => match e.eval C ch with
    | some ch => recvA C t ch ok s
    | none => none
  | .select cases false => match cases.toList with
    | [c] => match c.send, e.eval C c.chan with
      | some x, some ch => match e.eval C x with
        | some v => offerA C c.elem ch v s
        | none => none
      | _, _ => none
    | _ => none
  | _ => none

theorem commA_eq (C : Cx) (e : E) (o : Oper) (s : St) : commA C e o s = commA' C e o s := by
  unfold commA commA'
  generalize o.op = q
  cases q <;> first | rfl | (rename_i b; cases b <;> rfl)

theorem comm_sound (hC : CxOk C P) {ops : Array Oper} {i : Nat} {rest : List Nat} {o : Oper} (ho : ops[i]? = some o) (hw : Region.wanted o (yielded ops a.tmps) = true)
    (hr : Rel C φ D s.heap w) (he : ERel φ D e a) {v : Value} {s' : St} (h : commA C e o s = some (v, s')) :
    ∃ w', Rel C φ D s'.heap w' ∧ Ext φ D s.heap w φ D s'.heap w' ∧ s'.next = s.next ∧ Ok D v ∧
      step P (lone (fat b a (.inRegion ops (i :: rest) :: k)) cs w) = .next (lone (fat b (a.put o.dst (den φ v)) (.inRegion ops rest :: k)) cs w') := by
  have ev := fun {x : Operand} {v : Value} (h : e.eval C x = some v) => eval_sound hC hr he h
  rw [commA_eq] at h
  unfold commA' at h
  split at h
  · -- a send
    rename_i ch x hop
    split at h
    case h_2 => cases h
    rename_i cv xv hch hx
    split at h
    case h_2 => cases h
    rename_i s1 hs
    cases h
    obtain ⟨c1, c2⟩ := ev hch
    obtain ⟨x1, x2⟩ := ev hx
    unfold sendA at hs
    split at hs
    case h_2 => cases hs
    rename_i r
    split at hs
    case h_2 => cases hs
    rename_i cap buf sent rcvd hb
    replace hs := bool_split hs; rcases hs with ⟨hlt, hs⟩ | ⟨_, hs⟩
    case inr => cases hs
    rw [blt_iff] at hlt
    cases hs
    obtain ⟨hok, h1⟩ := hr.blk r _ hb
    have hok' : OkL D (buf ++ [xv]) := by
      rw [OkL_iff] at hok ⊢
      intro y hy
      rcases List.mem_append.1 hy with hy | hy
      · exact hok y hy
      · simp only [List.mem_singleton] at hy; subst hy; exact x2
    obtain ⟨g1, g2⟩ := chan_set (sent' := sent + 1) (rcvd' := rcvd) hr hb hok'
    refine ⟨_, g1, g2, rfl, ok_undef _, ?_⟩
    have hex : (execOp a.eval o).run P w = .ok (.comm #[Conc.scase (φ r).block (den φ xv) (.tuple #[])] true .send) w := by
      simp [execOp, hop, c1, x1, den, Conc.scase]
    obtain ⟨es, hst⟩ := stepG_comm (b := b) (k := k) (cs := cs) (rest := rest) ho hw (fun c hc => by rw [hop] at hc; cases hc) hex
    have := Conc.step_lone_send_room hst h1 (by simpa [denL_map] using hlt)
    rw [fin_fat ho] at this
    rw [den_undef, show (denL φ (buf ++ [xv])).toArray = (denL φ buf).toArray.push (den φ xv) from by simp [denL_map]]
    exact this
  · -- a receive
    rename_i t ch ok hop
    split at h
    case h_2 => cases h
    rename_i cv hch
    obtain ⟨c1, c2⟩ := ev hch
    unfold recvA at h
    split at h
    case h_2 => cases h
    rename_i dir elem r hu
    split at h
    case h_2 => cases h
    rename_i z cap v0 buf sent rcvd hz hb
    cases h
    obtain ⟨hz1, _⟩ := zero_of hC hz
    obtain ⟨hok, h1⟩ := hr.blk r _ hb
    simp only [OkL] at hok
    obtain ⟨g1, g2⟩ := chan_set (sent' := sent) (rcvd' := rcvd + 1) hr hb hok.2
    have hval : den φ (bif ok then .tuple #[v0, .bool true] else v0) = Conc.got ok (den φ v0) true := by
      cases ok
      · rfl
      · simp only [cond_true, Conc.got, if_true]; exact den_bool2 φ v0 true
    refine ⟨_, g1, g2, rfl, ?_, ?_⟩
    · cases ok
      · exact hok.1
      · exact ok_bool2 hok.1 true
    have hex : (execOp a.eval o).run P w = .ok (.comm #[Conc.rcase (φ r).block z] true (.recv ok)) w := by
      simp [execOp, hop, run_und hC hu, hz1, c1, den, Conc.rcase]
    obtain ⟨es, hst⟩ := stepG_comm (b := b) (k := k) (cs := cs) (rest := rest) ho hw (fun c hc => by rw [hop] at hc; cases hc) hex
    have := Conc.step_lone_recv_buf ok hst h1 (by simp [denL])
    rw [fin_fat ho] at this
    rw [hval]
    have e1 : (denL φ (v0 :: buf)).toArray.getD 0 undef = den φ v0 := by simp [denL]
    have e2 : (denL φ (v0 :: buf)).toArray.extract 1 (denL φ (v0 :: buf)).toArray.size = (denL φ buf).toArray := by simp [denL]
    rw [e1, e2] at this
    exact this
  · -- a select of one send, with a default
    rename_i cases hop
    split at h
    case h_2 => cases h
    rename_i c hcs
    split at h
    case h_2 => cases h
    rename_i x ch hcx hch
    split at h
    case h_2 => cases h
    rename_i xv hx
    obtain ⟨c1, c2⟩ := ev hch
    obtain ⟨x1, x2⟩ := ev hx
    unfold offerA at h
    split at h
    case h_2 => cases h
    rename_i z r hz
    split at h
    case h_2 => cases h
    rename_i cap buf sent rcvd hb
    obtain ⟨hz1, _⟩ := zero_of hC hz
    obtain ⟨hok, h1⟩ := hr.blk r _ hb
    have hcs' : cases = #[c] := by apply Array.ext'; simpa using hcs
    have hex : (execOp a.eval o).run P w = .ok (.comm #[Conc.scase (φ r).block (den φ xv) z] false .select) w := by
      simp [execOp, hop, hcs', hcx, hz1, c1, x1, den, Conc.scase]
    obtain ⟨es, hst⟩ := stepG_comm (b := b) (k := k) (cs := cs) (rest := rest) ho hw (fun c hc => by rw [hop] at hc; cases hc) hex
    have hv : ∀ n : Int, den φ (.tuple #[.int .i64 n, .bool false]) = .tuple #[goInt n, .bool false] := fun n => by simp [den, denA, denL, goInt]
    have hk : ∀ n : Int, Ok D (.tuple #[.int .i64 n, .bool false]) := fun n => by simp [Ok, OkA, OkL]
    replace h := bool_split h; rcases h with ⟨hlt, h⟩ | ⟨hlt, h⟩
    · rw [blt_iff] at hlt
      cases h
      have hok' : OkL D (buf ++ [xv]) := by
        rw [OkL_iff] at hok ⊢
        intro y hy
        rcases List.mem_append.1 hy with hy | hy
        · exact hok y hy
        · simp only [List.mem_singleton] at hy; subst hy; exact x2
      obtain ⟨g1, g2⟩ := chan_set (sent' := sent + 1) (rcvd' := rcvd) hr hb hok'
      refine ⟨_, g1, g2, rfl, hk 0, ?_⟩
      have := Conc.step_lone_select_send_room hst h1 (by simpa [denL_map] using hlt)
      rw [fin_fat ho] at this
      rw [hv, show (denL φ (buf ++ [xv])).toArray = (denL φ buf).toArray.push (den φ xv) from by simp [denL_map]]
      exact this
    · have hge := blt_false hlt
      cases h
      refine ⟨w, hr, Ext.refl .., rfl, hk (-1), ?_⟩
      have := Conc.step_lone_select_send_full hst h1 (by simpa [denL_map] using hge)
      rw [fin_fat ho] at this
      rw [hv]
      exact this
  · cases h

end
end Go.Eng
