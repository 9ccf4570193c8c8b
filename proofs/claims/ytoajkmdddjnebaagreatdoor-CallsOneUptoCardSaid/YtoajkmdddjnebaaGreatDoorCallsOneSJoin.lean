import Derived.Test.YtoajkmdddjnebaaGreatDoorCallsOneSLib
import Derived.Test.YtoajkmdddjnebaaGreatDoorSymF
import Derived.Shelf.Strings.OnBuilder
set_option linter.unusedSimpArgs false
set_option linter.unusedVariables false
namespace Go.Proofs
open Go.Eng Go.Shelf
def Tryz.lays156_ren:Shelf.Ren:=
 ⟨(fun x=>match x with
   | 156=>81
   | 165=>118
   | 166=>119
   | 169=>120
   | 240=>135
   | 241=>136
   | 276=>150
   | 277=>151
   | n=>n),
 (fun x=>match x with
   | 31=>94
   | 9=>9
   | 3=>3
   | 4=>4
   | 0=>0
   | 20=>20
   | 72=>165
   | 76=>141
   | 70=>163
   | 37=>29
   | 75=>140
   | 127=>177
   | 164=>190
   | 5=>5
   | 80=>167
   | n=>n),
 (fun x=>x)⟩
theorem Tryz.lays156:Lays.n156 Tryz.prog Tryz.lays156_ren:={
 mixed:=by kernel_rfl,
 f156:=by kernel_rfl,
 f165:=by kernel_rfl,
 f166:=by kernel_rfl,
 f169:=by kernel_rfl,
 f240:=by kernel_rfl,
 f241:=by kernel_rfl,
 f276:=by kernel_rfl,
 f277:=by kernel_rfl,
 t0:=by kernel_rfl,
 a0:=fun _=>by kernel_rfl,
 z0:=fun _=>by kernel_rfl,
 v0:=fun _=>by kernel_rfl,
 t3:=by kernel_rfl,
 a3:=fun _=>by kernel_rfl,
 z3:=fun _=>by kernel_rfl,
 v3:=fun _=>by kernel_rfl,
 t4:=by kernel_rfl,
 a4:=fun _=>by kernel_rfl,
 z4:=fun _=>by kernel_rfl,
 v4:=fun _=>by kernel_rfl,
 t9:=by kernel_rfl,
 a9:=fun _=>by kernel_rfl,
 z9:=fun _=>by kernel_rfl,
 v9:=fun _=>by kernel_rfl,
 t20:=by kernel_rfl,
 a20:=fun _=>by kernel_rfl,
 z20:=fun _=>by kernel_rfl,
 v20:=fun _=>by kernel_rfl,
 t31:=by kernel_rfl,
 a31:=fun _=>by kernel_rfl,
 z31:=fun _=>by kernel_rfl,
 v31:=fun _=>by kernel_rfl,
 t37:=by kernel_rfl,
 a37:=fun _=>by kernel_rfl,
 z37:=fun _=>by kernel_rfl,
 v37:=fun _=>by kernel_rfl,
 t70:=by kernel_rfl,
 a70:=fun _=>by kernel_rfl,
 z70:=fun _=>by kernel_rfl,
 v70:=fun _=>by kernel_rfl,
 t72:=by kernel_rfl,
 a72:=fun _=>by kernel_rfl,
 z72:=fun _=>by kernel_rfl,
 v72:=fun _=>by kernel_rfl,
 t75:=by kernel_rfl,
 a75:=fun _=>by kernel_rfl,
 z75:=fun _=>by kernel_rfl,
 v75:=fun _=>by kernel_rfl,
 t76:=by kernel_rfl,
 a76:=fun _=>by kernel_rfl,
 z76:=fun _=>by kernel_rfl,
 v76:=fun _=>by kernel_rfl,
 t127:=by kernel_rfl,
 a127:=fun _=>by kernel_rfl,
 z127:=fun _=>by kernel_rfl,
 v127:=fun _=>by kernel_rfl,
 t164:=by kernel_rfl,
 a164:=fun _=>by kernel_rfl,
 z164:=fun _=>by kernel_rfl,
 v164:=fun _=>by kernel_rfl}
theorem Tryz.extra156:Builder.Extra Tryz.prog Tryz.lays156_ren:={
 sizeBuilder:=by kernel_rfl,liesBuilder:=by kernel_rfl,t5:=by kernel_rfl,a5:=fun _=>by kernel_rfl,z5:=fun _=>by kernel_rfl,v5:=fun _=>by kernel_rfl,
 infoByte:=by kernel_rfl,cellsByte:=by kernel_rfl,sizeByte:=by kernel_rfl,neB5:=by decide}
theorem joinL_lib:∀(l:List (List UInt8)) (sep:List UInt8),joinL l sep=Lib.join l sep
 | [],sep=>rfl
 | [x],sep=>(Lib.join_one x sep).symm
 | x::y::r,sep=>by
   simp only [joinL,joinL_lib (y::r) sep,Lib.join_cons]
   simp [Lib.joinTail]
theorem Tryz.joinOk:∀(bk o c:Nat) (xs:List ByteArray) (sep:ByteArray) (w:World),(∀(j:Nat) x,xs[j]? =some x->w.cell? ⟨bk,o+j,none⟩=some (.string x))->
 bk<w.heap.size->xs.length<=c->xs.length<=1099511627776->(joinL (xs.map (·.data.toList)) sep.data.toList).length<1099511627776->
 Calls Tryz.prog 81 #[.slice (some ⟨bk,o,none⟩) xs.length c,.string sep] w fun e w'=>e= .returned (.string ⟨⟨joinL (xs.map (·.data.toList)) sep.data.toList⟩⟩)/\RowKit.Below w.heap.size w w':=by
 intro bk o c xs sep w h1 h2 h3 h4 h5
 rw [joinL_lib] at*
 exact Any.strings_Join Tryz.lays156 Tryz.extra156 bk o c xs sep w h1 h2 (by omega) h3 (by omega)
end Go.Proofs
