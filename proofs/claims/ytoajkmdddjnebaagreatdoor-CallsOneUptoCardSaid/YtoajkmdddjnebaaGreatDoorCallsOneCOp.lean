import Derived.Test.YtoajkmdddjnebaaGreatDoorCallsOneCO
set_option linter.unusedSimpArgs false
set_option linter.unusedVariables false
namespace Go.Proofs
open Go.Eng
set_option maxRecDepth 100000
abbrev zCOa0:Bool->Prop:=fun x0=>(bif false then x0 else !x0)=true
abbrev zCOa1:Bool->Prop->Prop:=fun x0 p=>(zCOa0 x0->zCOa0 x0->zCOa0 x0)/\(true=true->x0=false->zCOa0 x0)/\p
def nf_names_plain:Prop:=
 ∀(x:UInt8),True->Eng.ask (decide ((↑x.toNat:Int)<(33:Int))) (FPl x=false/\True) (Eng.ask (decide ((126:Int)<(↑x.toNat:Int))) (FPl x=false/\True) (∀(q:Bool),q=decide ((↑x.toNat:Int)=(37:Int))->zCOa1 q (∀(q_1:Bool),(q_1=bif q then true else decide ((↑x.toNat:Int)=(44:Int)))->zCOa1 q_1 (Eng.ask (bif q_1 then true else decide ((↑x.toNat:Int)=(59:Int))) (FPl x=false/\True) (FPl x=true/\True)))))
theorem eq_names_plain:vc_names_plain=nf_names_plain:=by kernel_rfl
theorem pf_names_plain:nf_names_plain:=by
 delta nf_names_plain zCOa0 zCOa1
 intro x0
 intro h1
 refine ask_p bp_dec ?_ ?_
 ·intro h2
  refine ⟨by exact pl_no (by omega), ?_⟩
  trivial
 intro h2
 refine ask_p bp_dec ?_ ?_
 ·intro h3
  refine ⟨by exact pl_no (by omega), ?_⟩
  trivial
 intro h3
 intro q4 hq4;subst hq4
 refine ⟨by (simp;done),by (simp;done), ?_⟩
 intro q5 hq5;subst hq5
 refine ⟨by (simp;done),by (simp;done), ?_⟩
 refine ask_p (bp_or (bp_or bp_dec bp_dec) bp_dec) ?_ ?_
 ·intro h6
  refine ⟨by exact pl_no (by omega), ?_⟩
  trivial
 intro h6
 refine ⟨by exact pl_yes ‹_› ‹_› ‹_›, ?_⟩
 trivial
abbrev zCOb0:Bool->Prop->Prop:=fun x0 p=>(x0=true->x0=true->x0=true)/\(true=true->x0=true->x0=true)/\p
def nf_ref05_plain:Prop:=
 ∀(x:UInt8),True->∀(q:Bool),q=decide ((33:Int)<=(↑x.toNat:Int))->zCOb0 q (∀(q_1:Bool),(q_1=bif q then decide ((↑x.toNat:Int)<=(126:Int)) else false)->zCOb0 q_1 (∀(q:Bool),(q=bif q_1 then !decide ((↑x.toNat:Int)=(37:Int)) else false)->zCOb0 q (∀(q_2:Bool),(q_2=bif q then !decide ((↑x.toNat:Int)=(44:Int)) else false)->zCOb0 q_2 ((FPl x=bif q_2 then !decide ((↑x.toNat:Int)=(59:Int)) else false)/\True))))
theorem eq_ref05_plain:vc_ref05_plain=nf_ref05_plain:=by kernel_rfl
theorem pf_ref05_plain:nf_ref05_plain:=by
 delta nf_ref05_plain zCOb0
 intro x0
 intro h1
 intro q2 hq2;subst hq2
 refine ⟨by (simp;done),by (simp;done), ?_⟩
 intro q3 hq3;subst hq3
 refine ⟨by (simp;done),by (simp;done), ?_⟩
 intro q4 hq4;subst hq4
 refine ⟨by (simp;done),by (simp;done), ?_⟩
 intro q5 hq5;subst hq5
 refine ⟨by (simp;done),by (simp;done),by exact pl_eq _, ?_⟩
 trivial
def nf_digit:Prop:=
 ∀(x:Int),(0:Int)<=x/\x<(16:Int)->Eng.ask (decide (x<(10:Int))) ((↑(FHx x.toNat).toNat:Int)=IntKind.u8.wrap ((48:Int)+x)/\True) ((↑(FHx x.toNat).toNat:Int)=IntKind.u8.wrap (IntKind.u8.wrap ((65:Int)+x)- (10:Int))/\True)
theorem eq_digit:vc_digit=nf_digit:=by kernel_rfl
theorem pf_digit:nf_digit:=by
 delta nf_digit
 intro x0
 intro ⟨h1,h2⟩
 refine ask_p bp_dec ?_ ?_
 ·intro h3
  refine ⟨by exact hx_lo ‹_› ‹_›, ?_⟩
  trivial
 intro h3
 refine ⟨by exact hx_hi ‹_› ‹_›, ?_⟩
 trivial
abbrev zCOd1:List UInt8:=[(48:UInt8),(49:UInt8),(50:UInt8),(51:UInt8),(52:UInt8),(53:UInt8),(54:UInt8),(55:UInt8),(56:UInt8),(57:UInt8),(65:UInt8),(66:UInt8),(67:UInt8),(68:UInt8),(69:UInt8),(70:UInt8)]
abbrev zCOd3:List UInt8->XPut->Int:=fun x0 x1=>(↑(x0.getD (Int.toNat (↑x1.i:Int)) (0:UInt8)).toNat:Int)
abbrev zCOd7:XPut->List UInt8->Prop:=fun x0 x1=>x0.i<=x1.length/\0<x1.length/\FHold0 (FCat FTxB (List.take x0.i x1)) x0.k x0.c x0.op x0.buf
abbrev zCOd9:List UInt8->Int:=fun x0=>(↑x0.length:Int)
abbrev zCOd13:Prop->Prop:=fun p=>True/\True/\p
abbrev zCOd2:XPut->List UInt8->XPut->Prop->Prop:=fun x0 x1 x2 p=>zCOd7 x0 x1/\x1.length-x0.i<x1.length-x2.i/\0=0/\p
abbrev zCOd4:List UInt8->XPut->XPut->Prop->Prop:=fun x0 x1 x2 p=>(false=true->false=true)/\x0=x0/\zCOd9 x0=zCOd9 x0/\(↑x1.i:Int)=IntKind.i64.wrap ((↑x2.i:Int)+(1:Int))/\p
abbrev zCOd8:List UInt8->XPut->Int:=fun x0 x1=>(↑(zCOd1.getD (zCOd3 x0 x1/(16:Int)).toNat (0:UInt8)).toNat:Int)
abbrev zCOd11:List UInt8->XPut->Int:=fun x0 x1=>IntKind.u8.wrap (↑(BitVec.ofInt 8 (zCOd3 x0 x1) &&& BitVec.ofInt 8 (15:Int)).toNat:Int)
abbrev zCOd5:List UInt8->XPut->Int:=fun x0 x1=>(↑(zCOd1.getD (zCOd11 x0 x1).toNat (0:UInt8)).toNat:Int)
abbrev zCOd10:XPut->List UInt8->Prop:=fun x0 x1=>x0.k+1<1099511627776/\zCOd13 (True/\∃(x':XPut),zCOd2 x' x1 x0 (x'.k=x0.k+1/\x'.c=x0.k+1/\x'.op=true/\zCOd4 x1 x' x0 (x'.buf=cutL x0.buf 0 x0.k++[UInt8.ofNat (zCOd3 x1 x0).toNat]/\True)))
abbrev zCOd0:List UInt8->XPut->List UInt8:=fun x0 x1=>[UInt8.ofNat 37,UInt8.ofNat (zCOd8 x0 x1).toNat,UInt8.ofNat (zCOd5 x0 x1).toNat]
abbrev zCOd12:XPut->List UInt8->Nat:=fun x0 x1=>x0.k+(zCOd0 x1 x0).length
abbrev zCOd6:XPut->List UInt8->Prop:=fun x0 x1=>zCOd12 x0 x1<1099511627776/\zCOd13 (True/\∃(x':XPut),zCOd2 x' x1 x0 (x'.k=zCOd12 x0 x1/\x'.c=zCOd12 x0 x1/\x'.op=true/\zCOd4 x1 x' x0 (x'.buf=cutL x0.buf 0 x0.k++zCOd0 x1 x0/\True)))
def nf_names_Text:Prop:=
 ∀(x:List UInt8),x.length<1048577->Eng.ask (decide (zCOd9 x=(0:Int))) (FTx x=[(37:UInt8)]/\True) (true=true/\(0:Int)<=(0:Int)/\(0:Int)<=zCOd9 x/\1*(zCOd9 x).toNat<=1099511627776/\(zCOd9 x).toNat<=1099511627776/\(∃(x_1:XPut),zCOd7 x_1 x/\0=0/\x_1.k=0/\x_1.c=(zCOd9 x).toNat/\x_1.op=false/\(false=true->false=true)/\x=x/\zCOd9 x=zCOd9 x/\(↑x_1.i:Int)=(0:Int)/\x_1.buf=List.replicate (zCOd9 x).toNat (0:UInt8)/\True)/\True/\∀(x_1:XPut),zCOd7 x_1 x->Eng.ask (decide ((↑x_1.i:Int)<zCOd9 x)) ((0:Int)<=(↑x_1.i:Int)/\Int.toNat (↑x_1.i:Int)<x.length/\∃(x_2:UInt8),True/\(↑x_2.toNat:Int)=zCOd3 x x_1/\True/\Eng.ask (FPl x_2) (((0:Int)<=zCOd3 x x_1/\zCOd3 x x_1<(256:Int))/\0+x_1.k<=x_1.buf.length/\Eng.ask x_1.op ((x_1.c=x_1.k/\0=0/\x_1.k=x_1.buf.length/\5=5)/\zCOd10 x_1 x) (Eng.ask (leNB (x_1.k+1) x_1.c) (0+x_1.k+1<=x_1.buf.length/\zCOd13 (True/\∃(x':XPut),zCOd2 x' x x_1 (x'.k=x_1.k+1/\x'.c=x_1.c/\x'.op=false/\zCOd4 x x' x_1 (x'.buf=List.take (0+x_1.k) x_1.buf++UInt8.ofNat (zCOd3 x x_1).toNat::List.drop (0+x_1.k+1) x_1.buf/\True)))) (zCOd10 x_1 x))) ((0:Int)<=(4:Int)/\(0:Int)<=zCOd3 x x_1/(16:Int)/\(zCOd3 x x_1/(16:Int)).toNat<16/\(0:Int)<=zCOd11 x x_1/\(zCOd11 x x_1).toNat<16/\((0:Int)<=(37:Int)/\(37:Int)<(256:Int))/\((0:Int)<=zCOd8 x x_1/\zCOd8 x x_1<(256:Int))/\((0:Int)<=zCOd5 x x_1/\zCOd5 x x_1<(256:Int))/\0+x_1.k<=x_1.buf.length/\Eng.ask x_1.op ((x_1.c=x_1.k/\0=0/\x_1.k=x_1.buf.length/\5=5)/\zCOd6 x_1 x) (Eng.ask (leNB (zCOd12 x_1 x) x_1.c) (0+x_1.k+(zCOd0 x x_1).length<=x_1.buf.length/\zCOd13 (True/\∃(x':XPut),zCOd2 x' x x_1 (x'.k=zCOd12 x_1 x/\x'.c=x_1.c/\x'.op=false/\zCOd4 x x' x_1 (x'.buf=List.take (0+x_1.k) x_1.buf++UInt8.ofNat 37::UInt8.ofNat (zCOd8 x x_1).toNat::UInt8.ofNat (zCOd5 x x_1).toNat::List.drop (0+x_1.k+(zCOd0 x x_1).length) x_1.buf/\True)))) (zCOd6 x_1 x)))) (0+x_1.k<=x_1.buf.length/\FTx x=cutL x_1.buf 0 x_1.k/\True))
theorem eq_names_Text:vc_names_Text=nf_names_Text:=by kernel_rfl
theorem pf_names_Text:nf_names_Text:=by
 delta nf_names_Text zCOd1 zCOd3 zCOd7 zCOd9 zCOd13 zCOd2 zCOd4 zCOd8 zCOd11 zCOd5 zCOd10 zCOd0 zCOd12 zCOd6
 intro x0
 intro h1
 refine ask_p bp_dec ?_ ?_
 ·intro h2
  refine ⟨by exact tx_nil ‹_›, ?_⟩
  trivial
 intro h2
 refine ⟨by rfl,by decide,by omega,by omega,by omega, ?_⟩
 refine ⟨?_, ?_⟩
 ·refine ⟨⟨(((0:Int):Int)).toNat,(0),(Int.toNat (↑x0.length:Int)),(false),(List.replicate (Int.toNat (↑x0.length:Int)) (0:UInt8))⟩, ?_⟩
  try dsimp only
  refine ⟨?_, ?_⟩
  ·refine ⟨by omega,by omega, ?_⟩
   exact hold0_zero
  refine ⟨by rfl,by rfl,by rfl,by rfl,by (simp;done),by rfl,by rfl,by decide,by rfl, ?_⟩
  trivial
 refine ⟨by trivial, ?_⟩
 intro x3
 intro ⟨h4,⟨h5,h6⟩⟩
 refine ask_p bp_dec ?_ ?_
 ·intro h7
  refine ⟨by (have e1:=hold0_len h6;have e2:=tx_part (x:=x0) (i:=x3.i) h1;first | omega | (simp only [List.length_cons,List.length_nil];omega)),by (have e1:=hold0_len h6;have e2:=tx_part (x:=x0) (i:=x3.i) h1;first | omega | (simp only [List.length_cons,List.length_nil];omega)), ?_⟩
  refine ⟨(x0.getD (Int.toNat (↑x3.i:Int)) (0:UInt8)), ?_⟩
  try dsimp only
  refine ⟨by trivial,by rfl,by trivial, ?_⟩
  refine ask_p bp_id ?_ ?_
  ·intro h8
   refine ⟨?_, ?_⟩
   ·refine ⟨by (have e1:=hold0_len h6;have e2:=tx_part (x:=x0) (i:=x3.i) h1;first | omega | (simp only [List.length_cons,List.length_nil];omega)), ?_⟩
    exact u8_lt _
   refine ⟨by (obtain ⟨e1,e2,e3,e4⟩:=h6;first | omega | (have:=e4 ‹_›;omega) | (simp only [List.length_cons,List.length_nil] at*;omega)), ?_⟩
   refine ask_p bp_id ?_ ?_
   ·intro h9
    refine ⟨?_, ?_⟩
    ·refine ⟨by (obtain ⟨e1,e2,e3,e4⟩:=h6;first | omega | (have:=e4 ‹_›;omega) | (simp only [List.length_cons,List.length_nil] at*;omega)),by rfl,by (obtain ⟨e1,e2,e3,e4⟩:=h6;first | omega | (have:=e4 ‹_›;omega) | (simp only [List.length_cons,List.length_nil] at*;omega)), ?_⟩
     rfl
    refine ⟨by (have e1:=hold0_len h6;have e2:=tx_part (x:=x0) (i:=x3.i) h1;first | omega | (simp only [List.length_cons,List.length_nil];omega)),by trivial,by trivial,by trivial, ?_⟩
    refine ⟨⟨((IntKind.i64.wrap ((↑x3.i:Int)+(1:Int)):Int)).toNat,(x3.k+1),(x3.k+1),(true),(cutL x3.buf 0 x3.k++[UInt8.ofNat (Int.toNat (↑(x0.getD (Int.toNat (↑x3.i:Int)) (0:UInt8)).toNat:Int))])⟩, ?_⟩
    try dsimp only
    refine ⟨?_, ?_⟩
    ·refine ⟨by (rw [wrap_succ _ (by omega)];omega),by (have e1:=hold0_len h6;have e2:=tx_part (x:=x0) (i:=x3.i) h1;first | omega | (simp only [List.length_cons,List.length_nil];omega)), ?_⟩
     exact hold0_new h6 (tx_step h1 h7 (one_eq h8))
    refine ⟨by (rw [wrap_succ _ (by omega)];omega),by rfl,by rfl,by rfl,by rfl,by (simp;done),by rfl,by rfl,by (rw [wrap_succ _ (by omega)];omega),by rfl, ?_⟩
    trivial
   intro h9
   refine ask_p bp_le ?_ ?_
   ·intro h10
    refine ⟨by (obtain ⟨e1,e2,e3,e4⟩:=h6;first | omega | (have:=e4 ‹_›;omega) | (simp only [List.length_cons,List.length_nil] at*;omega)),by trivial,by trivial,by trivial, ?_⟩
    refine ⟨⟨((IntKind.i64.wrap ((↑x3.i:Int)+(1:Int)):Int)).toNat,(x3.k+1),(x3.c),(false),(List.take (0+x3.k) x3.buf++UInt8.ofNat (Int.toNat (↑(x0.getD (Int.toNat (↑x3.i:Int)) (0:UInt8)).toNat:Int))::List.drop (0+x3.k+1) x3.buf)⟩, ?_⟩
    try dsimp only
    refine ⟨?_, ?_⟩
    ·refine ⟨by (rw [wrap_succ _ (by omega)];omega),by (have e1:=hold0_len h6;have e2:=tx_part (x:=x0) (i:=x3.i) h1;first | omega | (simp only [List.length_cons,List.length_nil];omega)), ?_⟩
     exact hold0_in (y:=[_]) h6 (by omega) (tx_step h1 h7 (one_eq h8))
    refine ⟨by (rw [wrap_succ _ (by omega)];omega),by rfl,by rfl,by rfl,by rfl,by (simp;done),by rfl,by rfl,by (rw [wrap_succ _ (by omega)];omega),by rfl, ?_⟩
    trivial
   intro h10
   refine ⟨by (have e1:=hold0_len h6;have e2:=tx_part (x:=x0) (i:=x3.i) h1;first | omega | (simp only [List.length_cons,List.length_nil];omega)),by trivial,by trivial,by trivial, ?_⟩
   refine ⟨⟨((IntKind.i64.wrap ((↑x3.i:Int)+(1:Int)):Int)).toNat,(x3.k+1),(x3.k+1),(true),(cutL x3.buf 0 x3.k++[UInt8.ofNat (Int.toNat (↑(x0.getD (Int.toNat (↑x3.i:Int)) (0:UInt8)).toNat:Int))])⟩, ?_⟩
   try dsimp only
   refine ⟨?_, ?_⟩
   ·refine ⟨by (rw [wrap_succ _ (by omega)];omega),by (have e1:=hold0_len h6;have e2:=tx_part (x:=x0) (i:=x3.i) h1;first | omega | (simp only [List.length_cons,List.length_nil];omega)), ?_⟩
    exact hold0_new h6 (tx_step h1 h7 (one_eq h8))
   refine ⟨by (rw [wrap_succ _ (by omega)];omega),by rfl,by rfl,by rfl,by rfl,by (simp;done),by rfl,by rfl,by (rw [wrap_succ _ (by omega)];omega),by rfl, ?_⟩
   trivial
  intro h8
  refine ⟨by decide,by (have e1:=hold0_len h6;have e2:=tx_part (x:=x0) (i:=x3.i) h1;first | omega | (simp only [List.length_cons,List.length_nil];omega)),by exact hi4_lt _,by (try simp only [wrap_i64,wrap_u64,wrap_u32,wrap_u8] at*)<;>omega,by exact lo4 _,by (simp;done), ?_⟩
  refine ⟨?_, ?_⟩
  ·refine ⟨by (have e1:=hold0_len h6;have e2:=tx_part (x:=x0) (i:=x3.i) h1;first | omega | (simp only [List.length_cons,List.length_nil];omega)), ?_⟩
   exact u8_lt _
  refine ⟨?_, ?_⟩
  ·refine ⟨by (have e1:=hold0_len h6;have e2:=tx_part (x:=x0) (i:=x3.i) h1;first | omega | (simp only [List.length_cons,List.length_nil];omega)), ?_⟩
   exact u8_lt _
  refine ⟨by (obtain ⟨e1,e2,e3,e4⟩:=h6;first | omega | (have:=e4 ‹_›;omega) | (simp only [List.length_cons,List.length_nil] at*;omega)), ?_⟩
  refine ask_p bp_id ?_ ?_
  ·intro h9
   refine ⟨?_, ?_⟩
   ·refine ⟨by (obtain ⟨e1,e2,e3,e4⟩:=h6;first | omega | (have:=e4 ‹_›;omega) | (simp only [List.length_cons,List.length_nil] at*;omega)),by rfl,by (obtain ⟨e1,e2,e3,e4⟩:=h6;first | omega | (have:=e4 ‹_›;omega) | (simp only [List.length_cons,List.length_nil] at*;omega)), ?_⟩
    rfl
   refine ⟨by (have e1:=hold0_len h6;have e2:=tx_part (x:=x0) (i:=x3.i) h1;first | omega | (simp only [List.length_cons,List.length_nil];omega)),by trivial,by trivial,by trivial, ?_⟩
   refine ⟨⟨((IntKind.i64.wrap ((↑x3.i:Int)+(1:Int)):Int)).toNat,(x3.k+[UInt8.ofNat 37,UInt8.ofNat (Int.toNat (↑([(48:UInt8),(49:UInt8),(50:UInt8),(51:UInt8),(52:UInt8),(53:UInt8),(54:UInt8),(55:UInt8),(56:UInt8),(57:UInt8),(65:UInt8),(66:UInt8),(67:UInt8),(68:UInt8),(69:UInt8),(70:UInt8)].getD ((↑(x0.getD (Int.toNat (↑x3.i:Int)) (0:UInt8)).toNat:Int)/(16:Int)).toNat (0:UInt8)).toNat:Int)),UInt8.ofNat (Int.toNat (↑([(48:UInt8),(49:UInt8),(50:UInt8),(51:UInt8),(52:UInt8),(53:UInt8),(54:UInt8),(55:UInt8),(56:UInt8),(57:UInt8),(65:UInt8),(66:UInt8),(67:UInt8),(68:UInt8),(69:UInt8),(70:UInt8)].getD (IntKind.u8.wrap (↑(BitVec.ofInt 8 (↑(x0.getD (Int.toNat (↑x3.i:Int)) (0:UInt8)).toNat:Int) &&& BitVec.ofInt 8 (15:Int)).toNat:Int)).toNat (0:UInt8)).toNat:Int))].length),(x3.k+[UInt8.ofNat 37,UInt8.ofNat (Int.toNat (↑([(48:UInt8),(49:UInt8),(50:UInt8),(51:UInt8),(52:UInt8),(53:UInt8),(54:UInt8),(55:UInt8),(56:UInt8),(57:UInt8),(65:UInt8),(66:UInt8),(67:UInt8),(68:UInt8),(69:UInt8),(70:UInt8)].getD ((↑(x0.getD (Int.toNat (↑x3.i:Int)) (0:UInt8)).toNat:Int)/(16:Int)).toNat (0:UInt8)).toNat:Int)),UInt8.ofNat (Int.toNat (↑([(48:UInt8),(49:UInt8),(50:UInt8),(51:UInt8),(52:UInt8),(53:UInt8),(54:UInt8),(55:UInt8),(56:UInt8),(57:UInt8),(65:UInt8),(66:UInt8),(67:UInt8),(68:UInt8),(69:UInt8),(70:UInt8)].getD (IntKind.u8.wrap (↑(BitVec.ofInt 8 (↑(x0.getD (Int.toNat (↑x3.i:Int)) (0:UInt8)).toNat:Int) &&& BitVec.ofInt 8 (15:Int)).toNat:Int)).toNat (0:UInt8)).toNat:Int))].length),(true),(cutL x3.buf 0 x3.k++[UInt8.ofNat 37,UInt8.ofNat (Int.toNat (↑([(48:UInt8),(49:UInt8),(50:UInt8),(51:UInt8),(52:UInt8),(53:UInt8),(54:UInt8),(55:UInt8),(56:UInt8),(57:UInt8),(65:UInt8),(66:UInt8),(67:UInt8),(68:UInt8),(69:UInt8),(70:UInt8)].getD ((↑(x0.getD (Int.toNat (↑x3.i:Int)) (0:UInt8)).toNat:Int)/(16:Int)).toNat (0:UInt8)).toNat:Int)),UInt8.ofNat (Int.toNat (↑([(48:UInt8),(49:UInt8),(50:UInt8),(51:UInt8),(52:UInt8),(53:UInt8),(54:UInt8),(55:UInt8),(56:UInt8),(57:UInt8),(65:UInt8),(66:UInt8),(67:UInt8),(68:UInt8),(69:UInt8),(70:UInt8)].getD (IntKind.u8.wrap (↑(BitVec.ofInt 8 (↑(x0.getD (Int.toNat (↑x3.i:Int)) (0:UInt8)).toNat:Int) &&& BitVec.ofInt 8 (15:Int)).toNat:Int)).toNat (0:UInt8)).toNat:Int))])⟩, ?_⟩
   try dsimp only
   refine ⟨?_, ?_⟩
   ·refine ⟨by (rw [wrap_succ _ (by omega)];omega),by (have e1:=hold0_len h6;have e2:=tx_part (x:=x0) (i:=x3.i) h1;first | omega | (simp only [List.length_cons,List.length_nil];omega)), ?_⟩
    exact hold0_new h6 (tx_step h1 h7 (esc_eq h8))
   refine ⟨by (rw [wrap_succ _ (by omega)];omega),by rfl,by rfl,by rfl,by rfl,by (simp;done),by rfl,by rfl,by (rw [wrap_succ _ (by omega)];omega),by rfl, ?_⟩
   trivial
  intro h9
  refine ask_p bp_le ?_ ?_
  ·intro h10
   refine ⟨by (obtain ⟨e1,e2,e3,e4⟩:=h6;first | omega | (have:=e4 ‹_›;omega) | (simp only [List.length_cons,List.length_nil] at*;omega)),by trivial,by trivial,by trivial, ?_⟩
   refine ⟨⟨((IntKind.i64.wrap ((↑x3.i:Int)+(1:Int)):Int)).toNat,(x3.k+[UInt8.ofNat 37,UInt8.ofNat (Int.toNat (↑([(48:UInt8),(49:UInt8),(50:UInt8),(51:UInt8),(52:UInt8),(53:UInt8),(54:UInt8),(55:UInt8),(56:UInt8),(57:UInt8),(65:UInt8),(66:UInt8),(67:UInt8),(68:UInt8),(69:UInt8),(70:UInt8)].getD ((↑(x0.getD (Int.toNat (↑x3.i:Int)) (0:UInt8)).toNat:Int)/(16:Int)).toNat (0:UInt8)).toNat:Int)),UInt8.ofNat (Int.toNat (↑([(48:UInt8),(49:UInt8),(50:UInt8),(51:UInt8),(52:UInt8),(53:UInt8),(54:UInt8),(55:UInt8),(56:UInt8),(57:UInt8),(65:UInt8),(66:UInt8),(67:UInt8),(68:UInt8),(69:UInt8),(70:UInt8)].getD (IntKind.u8.wrap (↑(BitVec.ofInt 8 (↑(x0.getD (Int.toNat (↑x3.i:Int)) (0:UInt8)).toNat:Int) &&& BitVec.ofInt 8 (15:Int)).toNat:Int)).toNat (0:UInt8)).toNat:Int))].length),(x3.c),(false),(List.take (0+x3.k) x3.buf++UInt8.ofNat 37::UInt8.ofNat (Int.toNat (↑([(48:UInt8),(49:UInt8),(50:UInt8),(51:UInt8),(52:UInt8),(53:UInt8),(54:UInt8),(55:UInt8),(56:UInt8),(57:UInt8),(65:UInt8),(66:UInt8),(67:UInt8),(68:UInt8),(69:UInt8),(70:UInt8)].getD ((↑(x0.getD (Int.toNat (↑x3.i:Int)) (0:UInt8)).toNat:Int)/(16:Int)).toNat (0:UInt8)).toNat:Int))::UInt8.ofNat (Int.toNat (↑([(48:UInt8),(49:UInt8),(50:UInt8),(51:UInt8),(52:UInt8),(53:UInt8),(54:UInt8),(55:UInt8),(56:UInt8),(57:UInt8),(65:UInt8),(66:UInt8),(67:UInt8),(68:UInt8),(69:UInt8),(70:UInt8)].getD (IntKind.u8.wrap (↑(BitVec.ofInt 8 (↑(x0.getD (Int.toNat (↑x3.i:Int)) (0:UInt8)).toNat:Int) &&& BitVec.ofInt 8 (15:Int)).toNat:Int)).toNat (0:UInt8)).toNat:Int))::List.drop (0+x3.k+[UInt8.ofNat 37,UInt8.ofNat (Int.toNat (↑([(48:UInt8),(49:UInt8),(50:UInt8),(51:UInt8),(52:UInt8),(53:UInt8),(54:UInt8),(55:UInt8),(56:UInt8),(57:UInt8),(65:UInt8),(66:UInt8),(67:UInt8),(68:UInt8),(69:UInt8),(70:UInt8)].getD ((↑(x0.getD (Int.toNat (↑x3.i:Int)) (0:UInt8)).toNat:Int)/(16:Int)).toNat (0:UInt8)).toNat:Int)),UInt8.ofNat (Int.toNat (↑([(48:UInt8),(49:UInt8),(50:UInt8),(51:UInt8),(52:UInt8),(53:UInt8),(54:UInt8),(55:UInt8),(56:UInt8),(57:UInt8),(65:UInt8),(66:UInt8),(67:UInt8),(68:UInt8),(69:UInt8),(70:UInt8)].getD (IntKind.u8.wrap (↑(BitVec.ofInt 8 (↑(x0.getD (Int.toNat (↑x3.i:Int)) (0:UInt8)).toNat:Int) &&& BitVec.ofInt 8 (15:Int)).toNat:Int)).toNat (0:UInt8)).toNat:Int))].length) x3.buf)⟩, ?_⟩
   try dsimp only
   refine ⟨?_, ?_⟩
   ·refine ⟨by (rw [wrap_succ _ (by omega)];omega),by (have e1:=hold0_len h6;have e2:=tx_part (x:=x0) (i:=x3.i) h1;first | omega | (simp only [List.length_cons,List.length_nil];omega)), ?_⟩
    exact hold0_in h6 h10 (tx_step h1 h7 (esc_eq h8))
   refine ⟨by (rw [wrap_succ _ (by omega)];omega),by rfl,by rfl,by rfl,by rfl,by (simp;done),by rfl,by rfl,by (rw [wrap_succ _ (by omega)];omega),by rfl, ?_⟩
   trivial
  intro h10
  refine ⟨by (have e1:=hold0_len h6;have e2:=tx_part (x:=x0) (i:=x3.i) h1;first | omega | (simp only [List.length_cons,List.length_nil];omega)),by trivial,by trivial,by trivial, ?_⟩
  refine ⟨⟨((IntKind.i64.wrap ((↑x3.i:Int)+(1:Int)):Int)).toNat,(x3.k+[UInt8.ofNat 37,UInt8.ofNat (Int.toNat (↑([(48:UInt8),(49:UInt8),(50:UInt8),(51:UInt8),(52:UInt8),(53:UInt8),(54:UInt8),(55:UInt8),(56:UInt8),(57:UInt8),(65:UInt8),(66:UInt8),(67:UInt8),(68:UInt8),(69:UInt8),(70:UInt8)].getD ((↑(x0.getD (Int.toNat (↑x3.i:Int)) (0:UInt8)).toNat:Int)/(16:Int)).toNat (0:UInt8)).toNat:Int)),UInt8.ofNat (Int.toNat (↑([(48:UInt8),(49:UInt8),(50:UInt8),(51:UInt8),(52:UInt8),(53:UInt8),(54:UInt8),(55:UInt8),(56:UInt8),(57:UInt8),(65:UInt8),(66:UInt8),(67:UInt8),(68:UInt8),(69:UInt8),(70:UInt8)].getD (IntKind.u8.wrap (↑(BitVec.ofInt 8 (↑(x0.getD (Int.toNat (↑x3.i:Int)) (0:UInt8)).toNat:Int) &&& BitVec.ofInt 8 (15:Int)).toNat:Int)).toNat (0:UInt8)).toNat:Int))].length),(x3.k+[UInt8.ofNat 37,UInt8.ofNat (Int.toNat (↑([(48:UInt8),(49:UInt8),(50:UInt8),(51:UInt8),(52:UInt8),(53:UInt8),(54:UInt8),(55:UInt8),(56:UInt8),(57:UInt8),(65:UInt8),(66:UInt8),(67:UInt8),(68:UInt8),(69:UInt8),(70:UInt8)].getD ((↑(x0.getD (Int.toNat (↑x3.i:Int)) (0:UInt8)).toNat:Int)/(16:Int)).toNat (0:UInt8)).toNat:Int)),UInt8.ofNat (Int.toNat (↑([(48:UInt8),(49:UInt8),(50:UInt8),(51:UInt8),(52:UInt8),(53:UInt8),(54:UInt8),(55:UInt8),(56:UInt8),(57:UInt8),(65:UInt8),(66:UInt8),(67:UInt8),(68:UInt8),(69:UInt8),(70:UInt8)].getD (IntKind.u8.wrap (↑(BitVec.ofInt 8 (↑(x0.getD (Int.toNat (↑x3.i:Int)) (0:UInt8)).toNat:Int) &&& BitVec.ofInt 8 (15:Int)).toNat:Int)).toNat (0:UInt8)).toNat:Int))].length),(true),(cutL x3.buf 0 x3.k++[UInt8.ofNat 37,UInt8.ofNat (Int.toNat (↑([(48:UInt8),(49:UInt8),(50:UInt8),(51:UInt8),(52:UInt8),(53:UInt8),(54:UInt8),(55:UInt8),(56:UInt8),(57:UInt8),(65:UInt8),(66:UInt8),(67:UInt8),(68:UInt8),(69:UInt8),(70:UInt8)].getD ((↑(x0.getD (Int.toNat (↑x3.i:Int)) (0:UInt8)).toNat:Int)/(16:Int)).toNat (0:UInt8)).toNat:Int)),UInt8.ofNat (Int.toNat (↑([(48:UInt8),(49:UInt8),(50:UInt8),(51:UInt8),(52:UInt8),(53:UInt8),(54:UInt8),(55:UInt8),(56:UInt8),(57:UInt8),(65:UInt8),(66:UInt8),(67:UInt8),(68:UInt8),(69:UInt8),(70:UInt8)].getD (IntKind.u8.wrap (↑(BitVec.ofInt 8 (↑(x0.getD (Int.toNat (↑x3.i:Int)) (0:UInt8)).toNat:Int) &&& BitVec.ofInt 8 (15:Int)).toNat:Int)).toNat (0:UInt8)).toNat:Int))])⟩, ?_⟩
  try dsimp only
  refine ⟨?_, ?_⟩
  ·refine ⟨by (rw [wrap_succ _ (by omega)];omega),by (have e1:=hold0_len h6;have e2:=tx_part (x:=x0) (i:=x3.i) h1;first | omega | (simp only [List.length_cons,List.length_nil];omega)), ?_⟩
   exact hold0_new h6 (tx_step h1 h7 (esc_eq h8))
  refine ⟨by (rw [wrap_succ _ (by omega)];omega),by rfl,by rfl,by rfl,by rfl,by (simp;done),by rfl,by rfl,by (rw [wrap_succ _ (by omega)];omega),by rfl, ?_⟩
  trivial
 intro h7
 refine ⟨by (obtain ⟨e1,e2,e3,e4⟩:=h6;first | omega | (have:=e4 ‹_›;omega) | (simp only [List.length_cons,List.length_nil] at*;omega)),by exact hold0_end h6 (tx_end h5 h7), ?_⟩
 trivial
abbrev zCOe2:List UInt8->XI->Int:=fun x0 x1=>(↑(x0.getD (Int.toNat (↑x1.i:Int)) (0:UInt8)).toNat:Int)
abbrev zCOe3:XI->List UInt8->XI->Prop->Prop:=fun x0 x1 x2 p=>(x0.i<=x1.length/\0<x1.length)/\x1.length-x0.i<x1.length-x2.i/\(false=true->false=true)/\x1=x1/\0=0/\p
abbrev zCOe4:XI->List UInt8->Prop->Prop:=fun x0 x1 p=>(0:Int)<=(↑x0.i:Int)/\Int.toNat (↑x0.i:Int)<x1.length/\p
abbrev zCOe5:Int->Int:=fun a0=>(↑(FHx a0.toNat).toNat:Int)
abbrev zCOe7:XI->List UInt8->List UInt8:=fun x0 x1=>FCat FTxB (List.take x0.i x1)
abbrev zCOe0:XI->List UInt8->Nat:=fun x0 x1=>(zCOe7 x0 x1).length
abbrev zCOe1:Int->Int->List UInt8:=fun a0 a1=>[UInt8.ofNat 37,UInt8.ofNat (zCOe5 a0).toNat,UInt8.ofNat (zCOe5 a1).toNat]
abbrev zCOe6:XI->List UInt8->Prop->Prop:=fun x0 x1 p=>0+zCOe0 x0 x1<=zCOe0 x0 x1/\(zCOe0 x0 x1=zCOe0 x0 x1/\0=0/\zCOe0 x0 x1=zCOe0 x0 x1/\5=5)/\p
def nf_ref05_Text:Prop:=
 ∀(x:List UInt8),x.length<1048577->Eng.ask (decide ((↑x.length:Int)=(0:Int))) (FTx x=[(37:UInt8)]/\True) ((∃(x_1:XI),(x_1.i<=x.length/\0<x.length)/\(false=true->false=true)/\x=x/\zCOe0 x_1 x=0/\zCOe0 x_1 x=0/\true=true/\(↑x_1.i:Int)=(0:Int)/\zCOe7 x_1 x=[]/\True)/\True/\∀(x_1:XI),x_1.i<=x.length/\0<x.length->Eng.ask (decide (LT.lt (α:=Int) (↑x_1.i:Int) (↑x.length:Int))) (zCOe4 x_1 x (∃(x_2:UInt8),True/\(↑x_2.toNat:Int)=zCOe2 x x_1/\True/\Eng.ask (FPl x_2) (zCOe4 x_1 x (((0:Int)<=zCOe2 x x_1/\zCOe2 x x_1<(256:Int))/\zCOe6 x_1 x (zCOe0 x_1 x+1<1099511627776/\True/\True/\True/\∃(x':XI),zCOe3 x' x x_1 (zCOe0 x' x=zCOe0 x_1 x+1/\zCOe0 x' x=zCOe0 x_1 x+1/\true=true/\(↑x'.i:Int)=IntKind.i64.wrap ((↑x_1.i:Int)+(1:Int))/\zCOe7 x' x=cutL (zCOe7 x_1 x) 0 (zCOe0 x_1 x)++[UInt8.ofNat (zCOe2 x x_1).toNat]/\True)))) (zCOe4 x_1 x ((16:Int)≠(0:Int)/\∃(x_3:Int),((0:Int)<=x_3/\x_3<(16:Int))/\x_3=IntKind.u8.wrap ((zCOe2 x x_1).tdiv (16:Int))/\True/\zCOe4 x_1 x ((16:Int)≠(0:Int)/\∃(x_4:Int),((0:Int)<=x_4/\x_4<(16:Int))/\x_4=(zCOe2 x x_1).tmod (16:Int)/\True/\((0:Int)<=(37:Int)/\(37:Int)<(256:Int))/\((0:Int)<=zCOe5 x_3/\zCOe5 x_3<(256:Int))/\((0:Int)<=zCOe5 x_4/\zCOe5 x_4<(256:Int))/\zCOe6 x_1 x (zCOe0 x_1 x+(zCOe1 x_3 x_4).length<1099511627776/\True/\True/\True/\∃(x':XI),zCOe3 x' x x_1 (zCOe0 x' x=zCOe0 x_1 x+(zCOe1 x_3 x_4).length/\zCOe0 x' x=zCOe0 x_1 x+(zCOe1 x_3 x_4).length/\true=true/\(↑x'.i:Int)=IntKind.i64.wrap ((↑x_1.i:Int)+(1:Int))/\zCOe7 x' x=cutL (zCOe7 x_1 x) 0 (zCOe0 x_1 x)++zCOe1 x_3 x_4/\True))))))) (0+zCOe0 x_1 x<=zCOe0 x_1 x/\FTx x=cutL (zCOe7 x_1 x) 0 (zCOe0 x_1 x)/\True))
theorem eq_ref05_Text:vc_ref05_Text=nf_ref05_Text:=by kernel_rfl
theorem pf_ref05_Text:nf_ref05_Text:=by
 delta nf_ref05_Text zCOe2 zCOe3 zCOe4 zCOe5 zCOe7 zCOe0 zCOe1 zCOe6
 intro x0
 intro h1
 refine ask_p bp_dec ?_ ?_
 ·intro h2
  refine ⟨by exact tx_nil ‹_›, ?_⟩
  trivial
 intro h2
 refine ⟨?_, ?_⟩
 ·refine ⟨⟨(((0:Int):Int)).toNat⟩, ?_⟩
  try dsimp only
  refine ⟨?_, ?_⟩
  ·refine ⟨by omega, ?_⟩
   omega
  refine ⟨by (simp;done),by rfl,by rfl,by rfl,by rfl,by decide,by rfl, ?_⟩
  trivial
 refine ⟨by trivial, ?_⟩
 intro x3
 intro ⟨h4,h5⟩
 refine ask_p bp_dec ?_ ?_
 ·intro h6
  refine ⟨by (have e2:=tx_part (x:=x0) (i:=x3.i) h1;first | omega | (simp only [List.length_cons,List.length_nil];omega)),by (have e2:=tx_part (x:=x0) (i:=x3.i) h1;first | omega | (simp only [List.length_cons,List.length_nil];omega)), ?_⟩
  refine ⟨(x0.getD (Int.toNat (↑x3.i:Int)) (0:UInt8)), ?_⟩
  try dsimp only
  refine ⟨by trivial,by rfl,by trivial, ?_⟩
  refine ask_p bp_id ?_ ?_
  ·intro h7
   refine ⟨by (have e2:=tx_part (x:=x0) (i:=x3.i) h1;first | omega | (simp only [List.length_cons,List.length_nil];omega)),by (have e2:=tx_part (x:=x0) (i:=x3.i) h1;first | omega | (simp only [List.length_cons,List.length_nil];omega)), ?_⟩
   refine ⟨?_, ?_⟩
   ·refine ⟨by (have e2:=tx_part (x:=x0) (i:=x3.i) h1;first | omega | (simp only [List.length_cons,List.length_nil];omega)), ?_⟩
    exact u8_lt _
   refine ⟨by (have e2:=tx_part (x:=x0) (i:=x3.i) h1;first | omega | (simp only [List.length_cons,List.length_nil];omega)),by (simp;done),by (have e2:=tx_part (x:=x0) (i:=x3.i) h1;first | omega | (simp only [List.length_cons,List.length_nil];omega)),by trivial,by trivial,by trivial, ?_⟩
   refine ⟨⟨((IntKind.i64.wrap ((↑x3.i:Int)+(1:Int)):Int)).toNat⟩, ?_⟩
   try dsimp only
   refine ⟨?_, ?_⟩
   ·refine ⟨by (rw [wrap_succ _ (by omega)];omega), ?_⟩
    (have e2:=tx_part (x:=x0) (i:=x3.i) h1;first | omega | (simp only [List.length_cons,List.length_nil];omega))
   refine ⟨by (rw [wrap_succ _ (by omega)];omega),by (simp;done),by rfl,by rfl,by exact (congrArg List.length (tx_step h1 h6 (one_eq h7))).trans List.length_append,by exact (congrArg List.length (tx_step h1 h6 (one_eq h7))).trans List.length_append,by rfl,by (rw [wrap_succ _ (by omega)];omega),by (rw [cutL_all];exact tx_step h1 h6 (one_eq h7)), ?_⟩
   trivial
  intro h7
  refine ⟨by (have e2:=tx_part (x:=x0) (i:=x3.i) h1;first | omega | (simp only [List.length_cons,List.length_nil];omega)),by (have e2:=tx_part (x:=x0) (i:=x3.i) h1;first | omega | (simp only [List.length_cons,List.length_nil];omega)),by decide, ?_⟩
  refine ⟨(IntKind.u8.wrap (Int.tdiv (↑(x0.getD (Int.toNat (↑x3.i:Int)) (0:UInt8)).toNat:Int) (16:Int))), ?_⟩
  try dsimp only
  refine ⟨?_, ?_⟩
  ·refine ⟨by (try simp only [wrap_i64,wrap_u64,wrap_u32,wrap_u8] at*)<;>omega, ?_⟩
   exact td16 _
  refine ⟨by rfl,by trivial,by (have e2:=tx_part (x:=x0) (i:=x3.i) h1;first | omega | (simp only [List.length_cons,List.length_nil];omega)),by (have e2:=tx_part (x:=x0) (i:=x3.i) h1;first | omega | (simp only [List.length_cons,List.length_nil];omega)),by decide, ?_⟩
  refine ⟨(Int.tmod (↑(x0.getD (Int.toNat (↑x3.i:Int)) (0:UInt8)).toNat:Int) (16:Int)), ?_⟩
  try dsimp only
  refine ⟨?_, ?_⟩
  ·refine ⟨by grind, ?_⟩
   grind
  refine ⟨by rfl,by trivial,by (simp;done), ?_⟩
  refine ⟨?_, ?_⟩
  ·refine ⟨by (have e2:=tx_part (x:=x0) (i:=x3.i) h1;first | omega | (simp only [List.length_cons,List.length_nil];omega)), ?_⟩
   exact u8_lt _
  refine ⟨?_, ?_⟩
  ·refine ⟨by (have e2:=tx_part (x:=x0) (i:=x3.i) h1;first | omega | (simp only [List.length_cons,List.length_nil];omega)), ?_⟩
   exact u8_lt _
  refine ⟨by (have e2:=tx_part (x:=x0) (i:=x3.i) h1;first | omega | (simp only [List.length_cons,List.length_nil];omega)),by (simp;done),by (have e2:=tx_part (x:=x0) (i:=x3.i) h1;first | omega | (simp only [List.length_cons,List.length_nil];omega)),by trivial,by trivial,by trivial, ?_⟩
  refine ⟨⟨((IntKind.i64.wrap ((↑x3.i:Int)+(1:Int)):Int)).toNat⟩, ?_⟩
  try dsimp only
  refine ⟨?_, ?_⟩
  ·refine ⟨by (rw [wrap_succ _ (by omega)];omega), ?_⟩
   (have e2:=tx_part (x:=x0) (i:=x3.i) h1;first | omega | (simp only [List.length_cons,List.length_nil];omega))
  refine ⟨by (rw [wrap_succ _ (by omega)];omega),by (simp;done),by rfl,by rfl,by exact (congrArg List.length (tx_step h1 h6 (esc_eq2 h7))).trans List.length_append,by exact (congrArg List.length (tx_step h1 h6 (esc_eq2 h7))).trans List.length_append,by rfl,by (rw [wrap_succ _ (by omega)];omega),by (rw [cutL_all];exact tx_step h1 h6 (esc_eq2 h7)), ?_⟩
  trivial
 intro h6
 refine ⟨by (have e2:=tx_part (x:=x0) (i:=x3.i) h1;first | omega | (simp only [List.length_cons,List.length_nil];omega)),by (rw [cutL_all];exact tx_end h5 h6), ?_⟩
 trivial
end Go.Proofs
