import Derived.Test.YtoajkmdddjnebaaGreatDoorCallsOneMSeat
import Derived.Test.YtoajkmdddjnebaaGreatDoorSymG
import Derived.Test.YtoajkmdddjnebaaGreatDoorEngEG
import Derived.Shelf.Strings.Search3
import Derived.Shelf.Lays
import Derived.KernelRfl
set_option linter.unusedSimpArgs false
set_option linter.unusedVariables false
namespace Go.Proofs
open Go.Eng Go.Shelf
theorem Tryz.cxOk:CxOk Tryz.cx Tryz.prog:=
 cxOk_of (bt:=2048) (bf:=2048) (by kernel_rfl) (by kernel_rfl) (by kernel_rfl) (by kernel_rfl) rfl (by kernel_rfl) (by kernel_rfl) (by kernel_rfl) (by kernel_rfl) (L:=[]) rfl (by kernel_rfl)
def Tryz.lays143_ren:Shelf.Ren:=
 ⟨(fun x=>match x with
   | 143=>126
   | 219=>141
   | 217=>157
   | 225=>158
   | 224=>159
   | 267=>160
   | 266=>169
   | 314=>170
   | n=>n),
 (fun x=>match x with
   | 9=>9
   | 3=>3
   | 4=>4
   | 5=>5
   | 46=>146
   | 146=>214
   | 51=>206
   | n=>n),
 (fun x=>match x with
   | 1=>0
   | n=>n)⟩
theorem Tryz.lays143:Lays.n143 Tryz.prog Tryz.lays143_ren:={
 mixed:=by kernel_rfl,
 f143:=by kernel_rfl,
 f217:=by kernel_rfl,
 f219:=by kernel_rfl,
 f224:=by kernel_rfl,
 f225:=by kernel_rfl,
 f266:=by kernel_rfl,
 f267:=by kernel_rfl,
 f314:=by kernel_rfl,
 t3:=by kernel_rfl,
 a3:=fun _=>by kernel_rfl,
 z3:=fun _=>by kernel_rfl,
 v3:=fun _=>by kernel_rfl,
 t4:=by kernel_rfl,
 a4:=fun _=>by kernel_rfl,
 z4:=fun _=>by kernel_rfl,
 v4:=fun _=>by kernel_rfl,
 t5:=by kernel_rfl,
 a5:=fun _=>by kernel_rfl,
 z5:=fun _=>by kernel_rfl,
 v5:=fun _=>by kernel_rfl,
 t9:=by kernel_rfl,
 a9:=fun _=>by kernel_rfl,
 z9:=fun _=>by kernel_rfl,
 v9:=fun _=>by kernel_rfl,
 t46:=by kernel_rfl,
 a46:=fun _=>by kernel_rfl,
 z46:=fun _=>by kernel_rfl,
 v46:=fun _=>by kernel_rfl,
 t51:=by kernel_rfl,
 a51:=fun _=>by kernel_rfl,
 z51:=fun _=>by kernel_rfl,
 v51:=fun _=>by kernel_rfl,
 t146:=by kernel_rfl,
 a146:=fun _=>by kernel_rfl,
 z146:=fun _=>by kernel_rfl,
 v146:=fun _=>by kernel_rfl,
 g1:=by kernel_rfl}
theorem Tryz.indexOk:∀f∈([126,141]:List Nat),∀(a b:ByteArray) (m:Int) (w:World),a.size<4294967281->w.cell? ⟨0,0,none⟩=some (.int .i64 m)->
 Calls Tryz.prog f #[.string a,.string b] w fun e w'=>e= .returned (.int .i64 (Lib.index a.data.toList b.data.toList))/\w'=w:=by
 intro f hf a b m w h1 h2
 simp only [List.mem_cons,List.not_mem_nil,or_false] at hf
 rcases hf with rfl | rfl
 · exact Any.strings_Index Tryz.lays143 a b m w h1 h2
 · exact Any.stringslite_Index {Tryz.lays143 with} a b m w h1 h2
theorem Tryz.maxLen (w:World) (h:w.ShapedOpen Tryz.prog):∃m cs fr,w.heap[0]? =some (.cells cs 3 fr)/\cs[0]? =some (.int .i64 m):=
 cells_of_shape (zero:= #[.int .i64 0]) h (by rw [show Tryz.prog.globals.size=8 from by kernel_rfl];decide) (by kernel_rfl) rfl (by kernel_rfl) (by kernel_rfl) (by kernel_rfl)
theorem Tryz.maxCell (w:World) (h:w.ShapedOpen Tryz.prog):∃m,w.cell? ⟨0,0,none⟩=some (.int .i64 m):=by
 obtain ⟨m,cs,fr,h1,h2⟩:=Tryz.maxLen w h
 exact ⟨m,by simp only [World.cell?,h1];simpa using h2⟩
theorem Tryz.ranKnown:∀m:Int,retTrue ((recO Tryz.cx (overIdx [126,141] 0) 1000).call false 8 [] .run ⟨(T.nil).set 0 (.cells [.int .i64 m] 3 2 none),Tryz.cx.globals⟩)=true:=fun m=>by kernel_rfl
theorem Tryz.known (w:World) (h:∀n,some 0=some n->∃m,w.cell? ⟨n,0,none⟩=some (.int .i64 m)):Calls Tryz.prog 8 #[] w fun e w'=>e= .returned (.bool true)/\RowKit.Below w.heap.size w w':=by
 obtain ⟨m,hw⟩:=h 0 rfl
 refine closed_callG Tryz.cxOk (overIdx_ok (by decide) Tryz.indexOk) (Tryz.ranKnown m) w (rel_cell (by decide) (by kernel_rfl) hw (fun _=>by simp [den]) (fun _=>by simp [Ok])) ?_
 intro i b h
 rw [T.get_set,T.get_nil] at h
 split at h
 · cases h;rfl
 · cases h
end Go.Proofs
