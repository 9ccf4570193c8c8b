import Derived.Test.YtoiobpicaonamaaGreatDoorCallsSameSAp
import Derived.Test.YtoiobpicaonamaaGreatDoorCallsSameSBp
import Derived.Test.YtoiobpicaonamaaGreatDoorCallsSameSCp
import Derived.Test.YtoiobpicaonamaaGreatDoorCallsSameSLib
import Derived.Test.YtoiobpicaonamaaGreatDoorRows
import Derived.WalkKit
import Derived.ProofKit
import Derived.OpenShut
namespace Go.Proofs.YtoiobpicaonamaaGreatDoor.callsSame
set_option linter.unusedSimpArgs false
open Go.Eng Go.ChangeShapes Go.WideShapes Go.ChangeAt Go.RowKit
set_option linter.unusedVariables false
theorem cyOk : CxOk Tryz.cy Tryz.prog := CxOk.with Tryz.cxOk (sure_one rfl Tryz.known)
theorem S_small : SpecOk Tryz.cy 4 sp_small := spec_sound .nil (show vc_small from eq_small.mpr pf_small)
theorem S_calls_Same : SpecOk Tryz.cy 6 sp_Same := spec_sound .nil (show vc_calls_Same from eq_calls_Same.mpr pf_calls_Same)
theorem S_ref_Same : SpecOk Tryz.cy 7 sp_Same := spec_sound .nil (show vc_ref_Same from eq_ref_Same.mpr pf_ref_Same)
theorem S_Copy : SpecOk Tryz.cy 8 sp_Copy := spec_sound .nil (show vc_Copy from eq_Copy.mpr pf_Copy)
theorem S_calls_Alike : SpecOk Tryz.cy 9 sp_Alike := spec_sound .nil (show vc_calls_Alike from eq_calls_Alike.mpr pf_calls_Alike)
theorem S_ref_Alike : SpecOk Tryz.cy 10 sp_Alike := spec_sound .nil (show vc_ref_Alike from eq_ref_Alike.mpr pf_ref_Alike)
theorem S_law : SpecOk Tryz.cy 3 sp_law :=
  spec_sound (SpOk.cons S_small (SpOk.cons S_calls_Same (SpOk.cons S_ref_Same (SpOk.cons S_Copy (SpOk.cons S_calls_Alike (SpOk.cons S_ref_Alike .nil))))))
    (show vc_law from eq_law.mpr pf_law)
section
variable {H : Type}
theorem one_le (d : DataW H) : 1 ≤ Rows.uptoBulk d := by
  cases d with
  | lit l => cases l <;> simp [Rows.uptoBulk]
  | nil => simp [Rows.uptoBulk]
  | ptr d => simp [Rows.uptoBulk]
  | slice elems spare => simp [Rows.uptoBulk]
  | agg parts => simp [Rows.uptoBulk]
  | iface t d => simp [Rows.uptoBulk]
  | map entries => simp [Rows.uptoBulk]
  | held h => simp [Rows.uptoBulk]
theorem part_le {d : DataW H} {l : List (DataW H)} (h : d ∈ l) : Rows.uptoBulk d ≤ Rows.uptoBulkAll l := by
  induction l with
  | nil => cases h
  | cons x r ih =>
    simp only [Rows.uptoBulkAll]
    cases List.mem_cons.1 h with
    | inl e => subst e; omega
    | inr e => have := ih e; omega
theorem length_le (l : List (DataW H)) : l.length ≤ Rows.uptoBulkAll l := by
  induction l with
  | nil => simp [Rows.uptoBulkAll]
  | cons x r ih => have := one_le x; simp only [Rows.uptoBulkAll, List.length_cons]; omega
theorem u24 : Tryz.cy.und 24 = Tryz.prog.underlying 24 := und_same cyOk (by kernel_rfl)
theorem u22 : Tryz.cy.und 22 = Tryz.prog.underlying 22 := und_same cyOk (by kernel_rfl)
theorem u39 : Tryz.cy.und 39 = Tryz.prog.underlying 39 := und_same cyOk (by kernel_rfl)
theorem u37 : Tryz.cy.und 37 = Tryz.prog.underlying 37 := und_same cyOk (by kernel_rfl)
theorem u36 : Tryz.cy.und 36 = Tryz.prog.underlying 36 := und_same cyOk (by kernel_rfl)
theorem u29 : Tryz.cy.und 29 = Tryz.prog.underlying 29 := und_same cyOk (by kernel_rfl)
theorem u28 : Tryz.cy.und 28 = Tryz.prog.underlying 28 := und_same cyOk (by kernel_rfl)
theorem u26 : Tryz.cy.und 26 = Tryz.prog.underlying 26 := und_same cyOk (by kernel_rfl)
theorem u56 : Tryz.cy.und 56 = Tryz.prog.underlying 56 := und_same cyOk (by kernel_rfl)
theorem u54 : Tryz.cy.und 54 = Tryz.prog.underlying 54 := und_same cyOk (by kernel_rfl)
theorem u58 : Tryz.cy.und 58 = Tryz.prog.underlying 58 := und_same cyOk (by kernel_rfl)
theorem u25 : Tryz.cy.und 25 = Tryz.prog.underlying 25 := und_same cyOk (by kernel_rfl)
theorem u4 : Tryz.cy.und 4 = Tryz.prog.underlying 4 := und_same cyOk (by kernel_rfl)
theorem u3 : Tryz.cy.und 3 = Tryz.prog.underlying 3 := und_same cyOk (by kernel_rfl)
theorem u9 : Tryz.cy.und 9 = Tryz.prog.underlying 9 := und_same cyOk (by kernel_rfl)
theorem z5 : Tryz.cy.size 5 = some 1 := by kernel_rfl
theorem z39 : Tryz.cy.size 39 = some 8 := by kernel_rfl
theorem z56 : Tryz.cy.size 56 = some 3 := by kernel_rfl
theorem z58 : Tryz.cy.size 58 = some 2 := by kernel_rfl
theorem b5 : isU8 Tryz.cy 5 = true := by kernel_rfl
theorem b39 : isU8 Tryz.cy 39 = false := by kernel_rfl
theorem b56 : isU8 Tryz.cy 56 = false := by kernel_rfl
theorem b58 : isU8 Tryz.cy 58 = false := by kernel_rfl
theorem bytesD {n : Nat} {d : DataW H} {l : List SV} (h : isD Tryz.cy (n + 1) 37 d l) : ∃ bs, l = [.bytes 0 false bs] ∧ bs.length < Rows.uptoBulk d := by
  obtain ⟨bs, rfl, ⟨rfl, rfl⟩ | ⟨spare, rfl⟩⟩ := isD_bytes (u37.trans Tryz.underlying37) z5 b5 h
  · exact ⟨[], rfl, by simp [Rows.uptoBulk]⟩
  · refine ⟨bs, rfl, ?_⟩
    have := length_le (bs.map fun b => DataW.lit (H := H) (.int .u8 b.toNat))
    simp only [List.length_map] at this
    simp only [Rows.uptoBulk]
    omega
theorem opD {n : Nat} {d : DataW H} {l : List SV} (h : isD Tryz.cy (n + 2) 39 d l) (hb : Rows.uptoBulk d ≤ 1048576) : ∃ o : MOp, l = opC 0 o ∧ FOpSmall o := by
  obtain ⟨ds, rfl, hf⟩ := isD_struct (u39.trans Tryz.underlying39) h
  obtain ⟨d1, ds, l1, r, rfl, rfl, h1, hf⟩ := isDF_cons hf
  obtain ⟨d2, ds, l2, r, rfl, rfl, h2, hf⟩ := isDF_cons hf
  obtain ⟨d3, ds, l3, r, rfl, rfl, h3, hf⟩ := isDF_cons hf
  obtain ⟨d4, ds, l4, r, rfl, rfl, h4, hf⟩ := isDF_cons hf
  obtain ⟨d5, ds, l5, r, rfl, rfl, h5, hf⟩ := isDF_cons hf
  obtain ⟨d6, ds, l6, r, rfl, rfl, h6, hf⟩ := isDF_cons hf
  obtain ⟨d7, ds, l7, r, rfl, rfl, h7, hf⟩ := isDF_cons hf
  obtain ⟨d8, ds, l8, r, rfl, rfl, h8, hf⟩ := isDF_cons hf
  obtain ⟨rfl, rfl⟩ := isDF_nil hf
  obtain ⟨x1, _, rfl, _⟩ := isD_int (u36.trans Tryz.underlying36) h1
  obtain ⟨x2, _, rfl⟩ := isD_str (u9.trans Tryz.underlying9) h2
  obtain ⟨x3, rfl, b3⟩ := bytesD h3
  obtain ⟨x4, rfl, b4⟩ := bytesD h4
  obtain ⟨x5, _, rfl⟩ := isD_bool (u4.trans Tryz.underlying4) h5
  obtain ⟨x6, rfl, b6⟩ := bytesD h6
  obtain ⟨x7, rfl, b7⟩ := bytesD h7
  obtain ⟨x8, _, rfl, _⟩ := isD_int (u3.trans Tryz.underlying3) h8
  simp only [Rows.uptoBulk, Rows.uptoBulkAll] at hb
  exact ⟨⟨x1, x2, x3, x4, x5, x6, x7, x8⟩, rfl, by unfold FOpSmall; simp only; omega⟩
theorem callD {n : Nat} {d : DataW H} {l : List SV} (h : isD Tryz.cy (n + 4) 24 d l) (hb : Rows.uptoBulk d ≤ 1048576) : ∃ c : MCall, leL [opsV 0 c] l ∧ FCallOk c := by
  obtain ⟨ds, rfl, hf⟩ := isD_struct (u24.trans Tryz.underlying24) h
  obtain ⟨d1, ds, l1, r, rfl, rfl, h1, hf⟩ := isDF_cons hf
  obtain ⟨rfl, rfl⟩ := isDF_nil hf
  obtain ⟨m, f, rfl, ⟨rfl, rfl⟩ | ⟨elems, spare, rfl, rfl, he⟩⟩ := isD_slice (u22.trans Tryz.underlying22) z39 b39 h1
  · exact ⟨⟨0, fun _ => ⟨0, [], [], [], false, [], [], 0⟩⟩, by simp [leL, leV, leR, opsV], by simp [FCallOk]⟩
  · simp only [Rows.uptoBulk, Rows.uptoBulkAll] at hb
    have hlen := length_le elems
    have key : ∀ i, ∃ o : MOp, i < elems.length → f i = opC 0 o ∧ FOpSmall o := by
      intro i
      by_cases hi : i < elems.length
      · have hp := part_le (List.getElem_mem hi)
        obtain ⟨o, h1, h2⟩ := opD (he i elems[i] (List.getElem?_eq_getElem hi)) (by omega)
        exact ⟨o, fun _ => ⟨h1, h2⟩⟩
      · exact ⟨⟨0, [], [], [], false, [], [], 0⟩, fun h => absurd h hi⟩
    obtain ⟨g, hg⟩ := Classical.skolem.1 key
    refine ⟨⟨elems.length, g⟩, ?_, ?_, fun i hi => (hg i hi).2⟩
    · simp only [List.append_nil, leL, leV, leR, opsV, and_true, true_and]
      refine ⟨by decide, fun h => h, fun i hi => ?_⟩
      rw [(hg i hi).1]
      exact leL_opC 0 _
    · simp only; omega
theorem rowD {n : Nat} {d : DataW H} {l : List SV} (h : isD Tryz.cy (n + 2) 58 d l) : ∃ x : MRow, l = rowC 0 x := by
  obtain ⟨ds, rfl, hf⟩ := isD_struct (u58.trans Tryz.underlying58) h
  obtain ⟨d1, ds, l1, r, rfl, rfl, h1, hf⟩ := isDF_cons hf
  obtain ⟨d2, ds, l2, r, rfl, rfl, h2, hf⟩ := isDF_cons hf
  obtain ⟨rfl, rfl⟩ := isDF_nil hf
  obtain ⟨x1, rfl, _⟩ := bytesD h1
  obtain ⟨x2, rfl, _⟩ := bytesD h2
  exact ⟨⟨x1, x2⟩, rfl⟩
theorem outD {n : Nat} {d : DataW H} {l : List SV} (h : isD Tryz.cy (n + 4) 56 d l) (hb : Rows.uptoBulk d ≤ 1048576) : ∃ o : MOut, leL (outC 0 o) l ∧ o.n < 1099511627776 := by
  obtain ⟨ds, rfl, hf⟩ := isD_struct (u56.trans Tryz.underlying56) h
  obtain ⟨d1, ds, l1, r, rfl, rfl, h1, hf⟩ := isDF_cons hf
  obtain ⟨d2, ds, l2, r, rfl, rfl, h2, hf⟩ := isDF_cons hf
  obtain ⟨d3, ds, l3, r, rfl, rfl, h3, hf⟩ := isDF_cons hf
  obtain ⟨rfl, rfl⟩ := isDF_nil hf
  obtain ⟨x1, _, rfl⟩ := isD_bool (u4.trans Tryz.underlying4) h1
  obtain ⟨x2, rfl, _⟩ := bytesD h2
  obtain ⟨m, f, rfl, ⟨rfl, rfl⟩ | ⟨elems, spare, rfl, rfl, he⟩⟩ := isD_slice (u54.trans Tryz.underlying54) z58 b58 h3
  · exact ⟨⟨x1, x2, 0, fun _ => ⟨[], []⟩⟩, by simp [leL, leV, leR, outC], by simp⟩
  · simp only [Rows.uptoBulk, Rows.uptoBulkAll] at hb
    have hlen := length_le elems
    have key : ∀ i, ∃ o : MRow, i < elems.length → f i = rowC 0 o := by
      intro i
      by_cases hi : i < elems.length
      · obtain ⟨o, h1⟩ := rowD (he i elems[i] (List.getElem?_eq_getElem hi))
        exact ⟨o, fun _ => h1⟩
      · exact ⟨⟨[], []⟩, fun h => absurd h hi⟩
    obtain ⟨g, hg⟩ := Classical.skolem.1 key
    refine ⟨⟨x1, x2, elems.length, g⟩, ?_, by simp only; omega⟩
    simp only [List.append_nil, List.cons_append, List.nil_append, leL, leV, leR, outC, and_true, true_and]
    refine ⟨⟨by decide, fun h => h⟩, by decide, fun h => h, fun i hi => ?_⟩
    rw [hg i hi]
    simp [leL, leV, leR, rowC]
theorem resD {n : Nat} {d : DataW H} {l : List SV} (h : isD Tryz.cy (n + 6) 28 d l) (hb : Rows.uptoBulk d ≤ 1048576) : ∃ o : MRes, leL (resC 0 o) l ∧ FResOk o := by
  obtain ⟨ds, rfl, hf⟩ := isD_struct (u28.trans Tryz.underlying28) h
  obtain ⟨d1, ds, l1, r, rfl, rfl, h1, hf⟩ := isDF_cons hf
  obtain ⟨d2, ds, l2, r, rfl, rfl, h2, hf⟩ := isDF_cons hf
  obtain ⟨d3, ds, l3, r, rfl, rfl, h3, hf⟩ := isDF_cons hf
  obtain ⟨rfl, rfl⟩ := isDF_nil hf
  obtain ⟨x1, _, rfl, _⟩ := isD_int (u25.trans Tryz.underlying25) h1
  obtain ⟨x2, _, rfl, _⟩ := isD_int (u3.trans Tryz.underlying3) h2
  obtain ⟨m, f, rfl, ⟨rfl, rfl⟩ | ⟨elems, spare, rfl, rfl, he⟩⟩ := isD_slice (u26.trans Tryz.underlying26) z56 b56 h3
  · exact ⟨⟨x1, x2, 0, fun _ => ⟨false, [], 0, fun _ => ⟨[], []⟩⟩⟩, by simp [leL, leV, leR, resC, outsV], by simp [FResOk]⟩
  · simp only [Rows.uptoBulk, Rows.uptoBulkAll] at hb
    have hlen := length_le elems
    have key : ∀ i, ∃ o : MOut, i < elems.length → leL (outC 0 o) (f i) ∧ o.n < 1099511627776 := by
      intro i
      by_cases hi : i < elems.length
      · have hp := part_le (List.getElem_mem hi)
        obtain ⟨o, h1, h2⟩ := outD (he i elems[i] (List.getElem?_eq_getElem hi)) (by omega)
        exact ⟨o, fun _ => ⟨h1, h2⟩⟩
      · exact ⟨⟨false, [], 0, fun _ => ⟨[], []⟩⟩, fun h => absurd h hi⟩
    obtain ⟨g, hg⟩ := Classical.skolem.1 key
    refine ⟨⟨x1, x2, elems.length, g⟩, ?_, ?_, fun i hi => (hg i hi).2⟩
    · simp only [List.append_nil, List.cons_append, List.nil_append, leL, leV, leR, resC, outsV, and_true, true_and]
      exact ⟨by decide, fun h => h, fun i hi => (hg i hi).1⟩
    · simp only; omega
theorem lawD {ds : List (DataW H)} {av : List SV} (h : isArgs Tryz.cy 8 [24, 24, 29] ds av) (hb : Rows.uptoBulkAll ds ≤ 1048576) : ∃ x : XL, sp_law.pre x ∧ leTs (sp_law.args x) av := by
  obtain ⟨d1, ds, a1, av, rfl, rfl, h1, h⟩ := isArgs_cons h
  obtain ⟨d2, ds, a2, av, rfl, rfl, h2, h⟩ := isArgs_cons h
  obtain ⟨d3, ds, a3, av, rfl, rfl, h3, h⟩ := isArgs_cons h
  obtain ⟨rfl, rfl⟩ := isArgs_nil h
  simp only [isArg, u24, u29, Tryz.underlying24, Tryz.underlying29] at h1 h2 h3
  obtain ⟨l1, rfl, h1⟩ := h1
  obtain ⟨l2, rfl, h2⟩ := h2
  obtain ⟨l3, rfl, h3⟩ := h3
  simp only [Rows.uptoBulkAll] at hb
  obtain ⟨a, ha, ha'⟩ := callD h1 (by omega)
  obtain ⟨b, hb1, hb'⟩ := callD h2 (by omega)
  obtain ⟨ds, rfl, k⟩ := isD_array (u29.trans Tryz.underlying29) h3
  obtain ⟨e1, ds, m1, r, rfl, rfl, k1, k⟩ := isDA_succ k
  obtain ⟨e2, ds, m2, r, rfl, rfl, k2, k⟩ := isDA_succ k
  obtain ⟨rfl, rfl⟩ := isDA_zero k
  simp only [Rows.uptoBulk, Rows.uptoBulkAll] at hb
  obtain ⟨p, hp, hp'⟩ := resD k1 (by omega)
  obtain ⟨q, hq, hq'⟩ := resD k2 (by omega)
  refine ⟨⟨a, b, p, q⟩, ⟨ha', hb', hp', hq'⟩, ha, hb1, ?_, trivial⟩
  rw [List.append_nil]
  exact leL_append hp hq
end
set_option maxRecDepth 100000 in
theorem contract (H : Type) (enc : TypeId × Value → H) (W : World) (base : Nat) (args : Array Value) (ds gs : List (DataW H)) (before : List MemPlace)
    (hval : ∀ (j : Nat) t v, Tryz.f3.params[j]? = some t → args[j]? = some v → Value.okWide Tryz.prog W .any base t v)
    (hW : DataW.Whole enc Tryz.prog Tryz.f3.params.toList Rows.callsSameSpec.vars false W args.toList ds gs before) (hk : Rows.uptoSmall H (ds ++ gs) = true) (hsh : W.ShapedOpen Tryz.prog) :
    Calls Tryz.prog 3 args W fun e W' => ∃ v, e = .returned v ∧ Rows.callsSameSpec.post enc Tryz.prog Tryz.f3 false true false false W args v W' := by
  have hW' := hW
  obtain ⟨p, q, hA0, hV, rfl, hfz, hnd⟩ := hW
  have hA : DataW.TrodAll enc Tryz.prog W 0 (fun _ => true) true [24, 24, 29] args.toList ds p := hA0
  rw [Tryz.params3] at hval
  obtain ⟨rfl, rfl⟩ := trodVars_none hV
  obtain ⟨d1, d2, d3, rfl⟩ : ∃ d1 d2 d3, ds = [d1, d2, d3] := by
    obtain ⟨_, _, _, d1, d2, d3, _, _, _, _, h, _⟩ := trodAll_three hA
    exact ⟨d1, d2, d3, h⟩
  simp only [List.append_nil] at hW' hk
  obtain ⟨m, hm⟩ := Tryz.maxCell W hsh
  obtain ⟨B⟩ := bd_start (C := Tryz.cy) (g := 0) (t := 3) (by decide) rfl (by kernel_rfl) hm
  have hv : ∀ (j : Nat) t v, [24, 24, 29][j]? = some t → args.toList[j]? = some v → Value.okWide Tryz.prog W .any base t v := by
    intro j t v ht hv
    exact hval j t v (arr_get ht) (arr_get' hv)
  obtain ⟨B', vs, av, _, hok, hden, hrl, his⟩ := top_args cyOk (fun _ => rfl) (n := 8) [24, 24, 29] args.toList [d1, d2, d3] p B (by kernel_rfl) hv hA
  obtain ⟨x, hx, hle⟩ := lawD his (of_decide_eq_true hk)
  have walk := top_law cyOk (f := 3) (fn := Tryz.f3) (by kernel_rfl) (by kernel_rfl) S_law x hx rfl rfl B' (leTs_rel B'.hFH hle hrl) hok
  rw [hden] at walk
  refine walk.mono fun e W' ⟨he, hg⟩ => ?_
  subst he
  have hlt : ∀ y ∈ p, y.block < W.heap.size := fun y hy => hW'.lt y hy
  exact ⟨_, rfl, post_below (pa := p) (pv := []) hW' (fun _ _ _ => trodAll_cons_mk (shut_bool Tryz.underlying4 _) trodAll_mk0)
    (fun sp hsp => stays_all (by kernel_rfl) [24, 24, 29] _ _ p (by kernel_rfl) hA (fun y hy => hg.same (hlt y hy)) hsp) (fun _ _ => rfl) (by simp)
    hg (ok_one (by kernel_rfl) rfl (okWide_bool_mk Tryz.underlying4 _))⟩
end Go.Proofs.YtoiobpicaonamaaGreatDoor.callsSame
