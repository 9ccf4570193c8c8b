import Derived.Test.YtoajkmdddjnebaaGreatDoorCallsOneCQ
set_option linter.unusedSimpArgs false
set_option linter.unusedVariables false
namespace Go.Proofs
open Go.Eng
def FTxt (l:List LOp):List UInt8:=joinL (l.map FTxOp) [59,32]
def FWr (x:List LOp) (i j:Nat):List UInt8:=if j<i then FTxOp (x.getD j (LOp.mk 0 [] [] [] false [] [] 0)) else []
theorem joinL_put (sep y:List UInt8):∀l:List (List UInt8),joinL (l++[y]) sep=if l.length=0 then y else joinL l sep++sep++y
 | []=>rfl
 | [a]=>by simp [joinL]
 | a::b::r=>by
   have:=joinL_put sep y (b::r)
   simp only [List.length_cons] at this
   rw [if_neg (by omega)] at this
   rw [if_neg (by simp)]
   simp only [List.cons_append,joinL] at*
   rw [this]
   simp
theorem joinL_le {sep:List UInt8} {m:Nat}:∀{l:List (List UInt8)},(∀w∈l,w.length<=m)->(joinL l sep).length<=(m+sep.length)*l.length
 | [],_=>by simp [joinL]
 | [a],h=>by have:=h a (by simp);simp [joinL];omega
 | a::b::r,h=>by
   have h1:=h a (by simp)
   have h2:=joinL_le (sep:=sep) (l:=b::r) (fun w hw=>h w (List.mem_cons_of_mem _ hw))
   simp only [joinL,List.length_append,List.length_cons,Nat.mul_succ] at*
   omega
theorem kw_len (k:Int):(FKw k).length<=6:=by
 unfold FKw
 by_cases h1:k=1
 · simp [h1]
 · by_cases h2:k=2
   · simp [h2]
   · by_cases h3:k=3
     · simp [h3]
     · by_cases h4:k=4
       · simp [h4]
       · simp [h1,h2,h3,h4]
theorem txop_le {x:LOp} (h:FMayOp x=true):(FTxOp x).length<=3000:=by
 obtain ⟨e0,e1,e2,e3,e4,e5,_⟩:=tx_lens h
 have hk:=kw_len x.kind
 have ho:(FOld x).length<=770:=by
  unfold FOld
  split
  · simp only [List.length_append,List.length_cons,List.length_nil];omega
  · simp
 unfold FTxOp FWds
 split
 · simp only [List.cons_append,List.nil_append,joinL,List.length_append,List.length_cons,List.length_nil];omega
 · split
   · simp only [List.cons_append,List.nil_append,joinL,List.length_append,List.length_cons,List.length_nil];omega
   · split
     · simp only [List.cons_append,List.nil_append,joinL,List.length_append,List.length_cons,List.length_nil];omega
     · simp only [List.append_nil,joinL,List.length_append,List.length_cons,List.length_nil];omega
section
variable {x:List LOp} {i j:Nat}
theorem ftxt_le (h:FMays x=true):(FTxt (x.take i)).length<=48032:=by
 obtain ⟨_,_,h2,h3⟩:=forms_len h
 have:=joinL_le (sep:=[59,32]) (m:=3000) (l:=(x.take i).map FTxOp) (fun w hw=>by
  obtain ⟨o,ho,rfl⟩:=List.mem_map.1 hw
  obtain ⟨j,hj,rfl⟩:=List.getElem_of_mem (List.mem_of_mem_take ho)
  have:=h3 j hj
  rw [show x.getD j (LOp.mk 0 [] [] [] false [] [] 0)=x[j] by simp [List.getD,hj]] at this
  exact txop_le this)
 simp only [List.length_map,List.length_take,List.length_cons,List.length_nil] at this
 unfold FTxt
 have:min i x.length<=16:=by omega
 omega
theorem ftxt_all (h:FMays x=true):(FTxt x).length<=48032:=by have:=ftxt_le (i:=x.length) h;rwa [List.take_length] at this
theorem ftxt_next (hi:i<x.length):FTxt (x.take (i+1))=if i=0 then FTxOp (x.getD i (LOp.mk 0 [] [] [] false [] [] 0)) else FTxt (x.take i)++[59,32]++FTxOp (x.getD i (LOp.mk 0 [] [] [] false [] [] 0)):=by
 unfold FTxt
 rw [List.take_add_one,List.map_append]
 simp only [List.getElem?_eq_getElem hi,Option.toList_some,List.map_cons,List.map_nil]
 rw [joinL_put,show x.getD i (LOp.mk 0 [] [] [] false [] [] 0)=x[i] by simp [List.getD,hi]]
 simp only [List.length_map,List.length_take,show (min i x.length=0)=(i=0) by rw [Nat.min_eq_left (by omega)]]
theorem ftxt_step (h:FMays x=true) (hi:(i:Int)<(x.length:Int)) (h0:(0:Int)<(i:Int)):FTxt (x.take (IntKind.i64.wrap ((i:Int)+(1:Int))).toNat)=FTxt (x.take i)++[59,32]++FTxOp (x.getD i (LOp.mk 0 [] [] [] false [] [] 0)):=by
 rw [k_w (mays_len h) hi,Int.toNat_natCast,ftxt_next (by omega),if_neg (by omega)]
theorem ftxt_one (h:FMays x=true) (hi:(i:Int)<(x.length:Int)) (h0:¬(0:Int)<(i:Int)):FTxt (x.take (IntKind.i64.wrap ((i:Int)+(1:Int))).toNat)=FTxt (x.take i)++FTxOp (x.getD i (LOp.mk 0 [] [] [] false [] [] 0)):=by
 obtain rfl:i=0:=by omega
 rw [k_w (mays_len h) hi,Int.toNat_natCast,ftxt_next (by omega),if_pos rfl]
 simp [FTxt,joinL]
theorem ftxt_end (h:FMays x=true) (hi:¬(i:Int)<(x.length:Int)):FTxt x=FTxt (x.take i):=by rw [List.take_of_length_le (by omega)]
theorem mays_op (h:FMays x=true) (hi:(i:Int)<(x.length:Int)):FMayOp (x.getD i (LOp.mk 0 [] [] [] false [] [] 0))=true:=(forms_len h).2.2.2 _ (by omega)
theorem wr_get (hi:i<(x.map FTxOp).length) (hj:¬(j:Int)<(x.length:Int)) (hj2:j<=x.length):(x.map FTxOp).getD i []=FWr x j (0+i):=by
 rw [List.length_map] at hi
 unfold FWr
 rw [if_pos (by omega),Nat.zero_add]
 simp [List.getD,hi]
theorem wr_step (E:List UInt8) (hE:E=FTxOp (x.getD i (LOp.mk 0 [] [] [] false [] [] 0))):match bif j.blt (0+i) then [SV.str (FWr x i j)] else bif j.blt (0+i+1) then List.take 1 (List.drop ((0+(j- (0+i)))*1) [SV.str E]) else [SV.str (FWr x i j)] with
 | b::y=>leV (SV.str (FWr x (i+1) j)) b/\leL [] y
 | _=>False:=by
 rcases Nat.lt_trichotomy j i with h | h | h
 · rw [show Nat.blt j (0+i)=true from by rw [Nat.blt_eq];omega]
   simp only [cond_true,leV,leL,and_true]
   unfold FWr;rw [if_pos h,if_pos (by omega)]
 · subst h
   rw [show Nat.blt j (0+j)=false from by rw [<-Bool.not_eq_true,Nat.blt_eq];omega,show Nat.blt j (0+j+1)=true from by rw [Nat.blt_eq];omega]
   rw [show (0+(j- (0+j)))*1=0 by omega]
   simp only [cond_true,cond_false,List.drop_zero,List.take_succ_cons,List.take_zero,leV,leL,and_true]
   unfold FWr;rw [if_pos (by omega),hE]
 · rw [show Nat.blt j (0+i)=false from by rw [<-Bool.not_eq_true,Nat.blt_eq];omega,show Nat.blt j (0+i+1)=false from by rw [<-Bool.not_eq_true,Nat.blt_eq];omega]
   simp only [cond_false,leV,leL,and_true]
   unfold FWr;rw [if_neg (by omega),if_neg (by omega)]
end
theorem ct_yes {x:List LOp} (h:FChk x=0):(bif decide (FChk x=0) then FTxt x else [])=FTxt x:=by rw [decide_eq_true h];rfl
theorem ct_no {x:List LOp} (h:¬FChk x=0):(bif decide (FChk x=0) then FTxt x else [])=[]:=by rw [decide_eq_false h];rfl
theorem chk_may {x:List LOp} (h:FChk x=0):FMays x=true:=by
 cases e:FMays x with
 | true=>rfl
 | false=>rw [FChk,e] at h;cases h
noncomputable def sp_written:FSpec where
 X:=List LOp
 pre x:=FMays x=true
 args x:=[.agg [opsV 0 x]]
 base:=[]
 own _:=[]
 out x:= .ret (.str (FTxt x)) []
 pv:=some ⟨fun x=> .str (FTxt x),rfl,fun _=>⟨rfl,rfl⟩⟩
noncomputable def an_written (x:List LOp):Nat->Option Cut
 | 0=>some {X:=XI,pre:=fun y=>y.i<=x.length
            tm:=fun y=>[(3,.sl 0 1 0 y.i x.length false),(11,opsV 0 x),(12,.int .i64 x.length),(13,.int .i64 y.i)]
            own:=fun y=>[(0,.arr x.length 1 (fun j=>[.str (FWr x y.i j)]) Ty.string)]
            mu:=fun y=>x.length-y.i}
 | _=>none
noncomputable def Sp_written:List (Nat×FSpec):=[(Id.calls_text,sp_text),(Id.strings_Join,sp_Join)]
def vc_written:Prop:=FnVC Tryz.cy Sp_written Id.calls_written sp_written an_written 10
noncomputable def an_rTxt (x:List LOp):Nat->Option Cut
 | 0=>some {X:=XI,pre:=fun y=>y.i<=x.length
            tm:=fun y=>[(1,.ptr 0 0 0 0),(3,.str (FTxt (x.take y.i))),(4,.int .i64 y.i)]
            own:=fun y=>[(0,.cells [opsV 0 x] Ty.api_Call)]
            mu:=fun y=>x.length-y.i}
 | _=>none
noncomputable def Sp_rTxt:List (Nat×FSpec):=[(Id.wicketref06_line,sp_text)]
def vc_rTxt:Prop:=FnVC Tryz.cy Sp_rTxt Id.wicketref06_Text sp_written an_rTxt 10
noncomputable def sp_cText:FSpec where
 X:=List LOp
 pre x:=FSmOps x
 args x:=[.agg [opsV 0 x]]
 base:=[]
 own _:=[]
 out x:= .ret (.tup [.str (bif decide (FChk x=0) then FTxt x else []),.int .i64 (FChk x)]) []
noncomputable def Sp_cText:List (Nat×FSpec):=[(Id.calls_Check,sp_Check),(Id.calls_written,sp_written)]
def vc_cText:Prop:=FnVC Tryz.cy Sp_cText Id.calls_Text sp_cText (fun _ _=>none) 10
end Go.Proofs
