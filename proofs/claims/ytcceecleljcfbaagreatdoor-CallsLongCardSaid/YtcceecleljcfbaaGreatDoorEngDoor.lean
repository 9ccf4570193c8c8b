/- The abstract interpreter: a program with package variables: a search of the library's, by its contract. -/
import Derived.Test.YtcceecleljcfbaaGreatDoorEngMany
import Derived.Lib.Index
namespace Go.Eng
set_option linter.unusedSimpArgs false
open Go.RowKit
set_option linter.unusedVariables false
noncomputable section

/-- strings.Index and its like: what is found; g: where internal/bytealg.MaxLen lies (it holds some number). -/
def overIdx (idx : List Nat) (g : Nat) (f : FuncId) (args : List Value) (s : St) : Option Value :=
  bif memN f idx then
    match args with
    | [.string a, .string b] => match s.heap.get g with
      | some (.cells (.int .i64 _ :: _) _ _ _) => bif Nat.blt a.data.toList.length 4294967281 then some (.int .i64 (Lib.index a.data.toList b.data.toList)) else none
      | _ => none
    | _ => none
  else none

theorem overIdx_ok {C : Cx} {P : Program} {idx : List Nat} {g : Nat} (hg : g < C.globals)
    (h : ∀ f ∈ idx, ∀ (a b : ByteArray) (m : Int) (w : World), a.size < 4294967281 → w.cell? ⟨g, 0, none⟩ = some (.int .i64 m) →
      Calls P f #[.string a, .string b] w fun e w' => e = .returned (.int .i64 (Lib.index a.data.toList b.data.toList)) ∧ w' = w) : OverOk C P (overIdx idx g) := by
  intro f args s v φ D w hv hI hargs
  unfold overIdx at hv
  replace hv := bool_split hv; rcases hv with ⟨hf, hv⟩ | ⟨_, hv⟩
  case inr => cases hv
  split at hv
  case h_2 => cases hv
  rename_i a b
  split at hv
  case h_2 => cases hv
  rename_i m r el st par hget
  replace hv := bool_split hv; rcases hv with ⟨hl, hv⟩ | ⟨_, hv⟩
  case inr => cases hv
  cases hv
  refine ⟨rfl, ?_⟩
  rw [memN_eq] at hf
  have hmem : f ∈ idx := by simpa using hf
  rw [blt_iff] at hl
  have hcell : w.cell? ⟨g, 0, none⟩ = some (.int .i64 m) := by
    obtain ⟨_, c, fr, sz, h1, h2, h3, h4, _⟩ := hI.1.blk g _ hget
    have hφ := (hI.1.glob g hg).2
    rw [hφ] at h1 h4
    have := h4 0 (.int .i64 m) rfl
    simp only [den] at this
    simp only [World.cell?, h1]
    simpa using this
  have hden : (denL φ [.string a, .string b]).toArray = #[.string a, .string b] := by simp [denL, den]
  rw [hden]
  exact (h f hmem a b m w hl hcell).mono fun e w' ⟨h1, h2⟩ => ⟨h1, by subst h2; exact Below.refl _ _⟩

/-- A variable that is known: its cells. -/
theorem rel_one {C : Cx} {w : World} {g t : Nat} {v : Value} {cs : Array Value} {fr : Nat × Nat} (hg : g < C.globals) (ht : C.size t = some 1) (hw : w.heap[g]? = some (.cells cs t fr)) (hv : cs[0]? = some v) (hd : ∀ φ, den φ v = v) (hok : ∀ D, Ok D v) :
    Rel C (fun g => ⟨g, 0, 0⟩) (fun i => i < C.globals) ((T.nil : T Blk).set g (.cells [v] t 2 none)) w := by
  have key : ∀ i b, ((T.nil : T Blk).set g (.cells [v] t 2 none)).get i = some b → i = g ∧ b = .cells [v] t 2 none := by
    intro i b h
    rw [T.get_set, T.get_nil] at h
    split at h
    · rename_i e; cases h; exact ⟨e, rfl⟩
    · cases h
  have hsz : 0 < cs.size := by
    rw [Array.getElem?_eq_some_iff] at hv
    exact hv.1
  refine ⟨fun i b h => ?_, fun i b h => ?_, fun i j bi bj hi hj hwr => ?_, fun g hg => ⟨hg, rfl⟩⟩
  · obtain ⟨rfl, _⟩ := key i b h; exact hg
  · obtain ⟨rfl, rfl⟩ := key i b h
    refine ⟨⟨hok _, trivial⟩, cs, fr, 1, hw, ht, ?_, ?_, ?_, by simp⟩
    · simp; omega
    · intro j u hj
      cases j with
      | zero => simp at hj; subst hj; rw [hd]; simpa using hv
      | succ j => simp at hj
    · intro h; omega
  · obtain ⟨rfl, rfl⟩ := key i bi hi
    simp [writable] at hwr
end
end Go.Eng
