import Derived.Test.YtoajkmdddjnebaaGreatDoorCallsOneCQ
set_option linter.unusedSimpArgs false
set_option linter.unusedVariables false
namespace Go.Proofs
open Go.Eng
set_option maxRecDepth 100000
abbrev zCQa0:List UInt8:=[(6:UInt8),(6:UInt8),(6:UInt8),(6:UInt8),(6:UInt8),(6:UInt8),(6:UInt8),(6:UInt8),(6:UInt8),(6:UInt8),(6:UInt8),(6:UInt8),(6:UInt8),(6:UInt8),(6:UInt8),(6:UInt8),(6:UInt8),(6:UInt8),(6:UInt8),(6:UInt8),(6:UInt8),(6:UInt8),(6:UInt8),(6:UInt8),(7:UInt8),(7:UInt8),(7:UInt8),(7:UInt8),(7:UInt8),(7:UInt8),(7:UInt8),(7:UInt8),(7:UInt8),(7:UInt8),(7:UInt8),(7:UInt8),(7:UInt8),(7:UInt8),(7:UInt8),(7:UInt8),(7:UInt8),(7:UInt8),(7:UInt8),(7:UInt8),(7:UInt8),(7:UInt8),(7:UInt8),(7:UInt8),(7:UInt8),(7:UInt8),(7:UInt8),(7:UInt8),(7:UInt8),(7:UInt8),(7:UInt8),(7:UInt8),(7:UInt8),(7:UInt8),(7:UInt8),(7:UInt8),(7:UInt8),(7:UInt8),(7:UInt8),(7:UInt8),(7:UInt8),(7:UInt8),(7:UInt8),(7:UInt8),(7:UInt8),(7:UInt8),(7:UInt8),(7:UInt8),(7:UInt8),(7:UInt8),(7:UInt8),(7:UInt8),(7:UInt8),(7:UInt8),(7:UInt8),(7:UInt8),(7:UInt8),(7:UInt8),(7:UInt8),(7:UInt8),(7:UInt8),(7:UInt8),(7:UInt8),(7:UInt8),(8:UInt8),(8:UInt8),(8:UInt8),(8:UInt8),(8:UInt8),(8:UInt8),(8:UInt8),(8:UInt8),(8:UInt8),(8:UInt8),(8:UInt8),(8:UInt8),(8:UInt8),(8:UInt8),(8:UInt8),(8:UInt8),(8:UInt8),(8:UInt8),(8:UInt8),(8:UInt8),(8:UInt8),(8:UInt8),(8:UInt8),(8:UInt8),(8:UInt8),(8:UInt8),(8:UInt8),(8:UInt8),(8:UInt8),(8:UInt8),(8:UInt8),(8:UInt8),(8:UInt8),(8:UInt8),(8:UInt8),(8:UInt8),(8:UInt8),(8:UInt8),(8:UInt8),(8:UInt8),(8:UInt8),(8:UInt8),(8:UInt8),(8:UInt8),(8:UInt8),(8:UInt8),(8:UInt8),(8:UInt8),(8:UInt8),(8:UInt8),(8:UInt8),(8:UInt8),(8:UInt8),(8:UInt8),(8:UInt8),(8:UInt8),(8:UInt8),(8:UInt8),(8:UInt8),(8:UInt8),(8:UInt8),(8:UInt8),(8:UInt8),(8:UInt8),(8:UInt8),(8:UInt8),(8:UInt8),(8:UInt8),(8:UInt8),(8:UInt8),(8:UInt8),(8:UInt8),(8:UInt8),(8:UInt8),(8:UInt8),(8:UInt8),(8:UInt8),(8:UInt8),(8:UInt8),(8:UInt8),(8:UInt8),(8:UInt8),(8:UInt8),(8:UInt8),(8:UInt8),(8:UInt8),(8:UInt8),(8:UInt8),(8:UInt8),(8:UInt8),(8:UInt8),(8:UInt8),(8:UInt8),(8:UInt8),(8:UInt8),(8:UInt8),(8:UInt8),(8:UInt8),(8:UInt8),(8:UInt8),(8:UInt8),(8:UInt8),(8:UInt8),(8:UInt8),(8:UInt8),(8:UInt8),(8:UInt8),(8:UInt8),(8:UInt8),(8:UInt8),(8:UInt8),(8:UInt8),(8:UInt8),(8:UInt8),(8:UInt8),(8:UInt8),(8:UInt8),(8:UInt8),(8:UInt8),(8:UInt8),(8:UInt8),(8:UInt8),(8:UInt8),(8:UInt8),(8:UInt8),(8:UInt8),(8:UInt8),(8:UInt8)]
abbrev zCQa2:Int->Int:=fun a0=>IntKind.u64.wrap ((0:Int)-IntKind.u64.wrap a0)
abbrev zCQa3:Prop:=(0:Int)<=(18:Int)/\False
abbrev zCQa4:Int->Int:=fun a0=>IntKind.u64.wrap a0/(4294967296:Int)
abbrev zCQa5:Int->Int:=fun a0=>IntKind.i64.wrap (a0*(2:Int))
abbrev zCQa6:Int->Int:=fun a0=>IntKind.u64.wrap a0/(65536:Int)
abbrev zCQa10:Prop:=(0:Int)<=(8:Int)
abbrev zCQa1:List UInt8:=(0:UInt8)::(1:UInt8)::(2:UInt8)::(2:UInt8)::(3:UInt8)::(3:UInt8)::(3:UInt8)::(3:UInt8)::(4:UInt8)::(4:UInt8)::(4:UInt8)::(4:UInt8)::(4:UInt8)::(4:UInt8)::(4:UInt8)::(4:UInt8)::(5:UInt8)::(5:UInt8)::(5:UInt8)::(5:UInt8)::(5:UInt8)::(5:UInt8)::(5:UInt8)::(5:UInt8)::(5:UInt8)::(5:UInt8)::(5:UInt8)::(5:UInt8)::(5:UInt8)::(5:UInt8)::(5:UInt8)::(5:UInt8)::(6:UInt8)::(6:UInt8)::(6:UInt8)::(6:UInt8)::(6:UInt8)::(6:UInt8)::(6:UInt8)::(6:UInt8)::zCQa0
abbrev zCQa7:Int->Int:=fun a0=>zCQa2 a0/(4294967296:Int)
abbrev zCQa8:Int->Int:=fun a0=>zCQa2 a0/(65536:Int)
abbrev zCQa9:Int->Int:=fun a0=>zCQa4 a0/(65536:Int)
abbrev zCQa11:Int->Int:=fun a0=>zCQa7 a0/(65536:Int)
def nf_Itoa:Prop:=
 ∀(x:Int),(0:Int)<=x/\x<(100:Int)->∀(q:Bool),q=decide ((0:Int)<=x)->(q=true->q=true->q=true)/\(true=true->q=true->q=true)/\Eng.ask (bif q then decide (x<(100:Int)) else false) (Eng.ask (decide (x<(10:Int))) ((0:Int)<=x/\(0:Int)<=IntKind.i64.wrap (x+(1:Int))/\(IntKind.i64.wrap (x+(1:Int))).toNat<=36/\x.toNat<=(IntKind.i64.wrap (x+(1:Int))).toNat/\FItoa x.toNat=cutL [(48:UInt8),(49:UInt8),(50:UInt8),(51:UInt8),(52:UInt8),(53:UInt8),(54:UInt8),(55:UInt8),(56:UInt8),(57:UInt8),(97:UInt8),(98:UInt8),(99:UInt8),(100:UInt8),(101:UInt8),(102:UInt8),(103:UInt8),(104:UInt8),(105:UInt8),(106:UInt8),(107:UInt8),(108:UInt8),(109:UInt8),(110:UInt8),(111:UInt8),(112:UInt8),(113:UInt8),(114:UInt8),(115:UInt8),(116:UInt8),(117:UInt8),(118:UInt8),(119:UInt8),(120:UInt8),(121:UInt8),(122:UInt8)] x.toNat ((IntKind.i64.wrap (x+(1:Int))).toNat -x.toNat)/\True) ((0:Int)<=zCQa5 x/\(0:Int)<=IntKind.i64.wrap (zCQa5 x+(2:Int))/\(IntKind.i64.wrap (zCQa5 x+(2:Int))).toNat<=200/\(zCQa5 x).toNat<=(IntKind.i64.wrap (zCQa5 x+(2:Int))).toNat/\FItoa x.toNat=cutL [(48:UInt8),(48:UInt8),(48:UInt8),(49:UInt8),(48:UInt8),(50:UInt8),(48:UInt8),(51:UInt8),(48:UInt8),(52:UInt8),(48:UInt8),(53:UInt8),(48:UInt8),(54:UInt8),(48:UInt8),(55:UInt8),(48:UInt8),(56:UInt8),(48:UInt8),(57:UInt8),(49:UInt8),(48:UInt8),(49:UInt8),(49:UInt8),(49:UInt8),(50:UInt8),(49:UInt8),(51:UInt8),(49:UInt8),(52:UInt8),(49:UInt8),(53:UInt8),(49:UInt8),(54:UInt8),(49:UInt8),(55:UInt8),(49:UInt8),(56:UInt8),(49:UInt8),(57:UInt8),(50:UInt8),(48:UInt8),(50:UInt8),(49:UInt8),(50:UInt8),(50:UInt8),(50:UInt8),(51:UInt8),(50:UInt8),(52:UInt8),(50:UInt8),(53:UInt8),(50:UInt8),(54:UInt8),(50:UInt8),(55:UInt8),(50:UInt8),(56:UInt8),(50:UInt8),(57:UInt8),(51:UInt8),(48:UInt8),(51:UInt8),(49:UInt8),(51:UInt8),(50:UInt8),(51:UInt8),(51:UInt8),(51:UInt8),(52:UInt8),(51:UInt8),(53:UInt8),(51:UInt8),(54:UInt8),(51:UInt8),(55:UInt8),(51:UInt8),(56:UInt8),(51:UInt8),(57:UInt8),(52:UInt8),(48:UInt8),(52:UInt8),(49:UInt8),(52:UInt8),(50:UInt8),(52:UInt8),(51:UInt8),(52:UInt8),(52:UInt8),(52:UInt8),(53:UInt8),(52:UInt8),(54:UInt8),(52:UInt8),(55:UInt8),(52:UInt8),(56:UInt8),(52:UInt8),(57:UInt8),(53:UInt8),(48:UInt8),(53:UInt8),(49:UInt8),(53:UInt8),(50:UInt8),(53:UInt8),(51:UInt8),(53:UInt8),(52:UInt8),(53:UInt8),(53:UInt8),(53:UInt8),(54:UInt8),(53:UInt8),(55:UInt8),(53:UInt8),(56:UInt8),(53:UInt8),(57:UInt8),(54:UInt8),(48:UInt8),(54:UInt8),(49:UInt8),(54:UInt8),(50:UInt8),(54:UInt8),(51:UInt8),(54:UInt8),(52:UInt8),(54:UInt8),(53:UInt8),(54:UInt8),(54:UInt8),(54:UInt8),(55:UInt8),(54:UInt8),(56:UInt8),(54:UInt8),(57:UInt8),(55:UInt8),(48:UInt8),(55:UInt8),(49:UInt8),(55:UInt8),(50:UInt8),(55:UInt8),(51:UInt8),(55:UInt8),(52:UInt8),(55:UInt8),(53:UInt8),(55:UInt8),(54:UInt8),(55:UInt8),(55:UInt8),(55:UInt8),(56:UInt8),(55:UInt8),(57:UInt8),(56:UInt8),(48:UInt8),(56:UInt8),(49:UInt8),(56:UInt8),(50:UInt8),(56:UInt8),(51:UInt8),(56:UInt8),(52:UInt8),(56:UInt8),(53:UInt8),(56:UInt8),(54:UInt8),(56:UInt8),(55:UInt8),(56:UInt8),(56:UInt8),(56:UInt8),(57:UInt8),(57:UInt8),(48:UInt8),(57:UInt8),(49:UInt8),(57:UInt8),(50:UInt8),(57:UInt8),(51:UInt8),(57:UInt8),(52:UInt8),(57:UInt8),(53:UInt8),(57:UInt8),(54:UInt8),(57:UInt8),(55:UInt8),(57:UInt8),(56:UInt8),(57:UInt8),(57:UInt8)] (zCQa5 x).toNat ((IntKind.i64.wrap (zCQa5 x+(2:Int))).toNat - (zCQa5 x).toNat)/\True)) (Eng.ask (decide (x<(0:Int))) (Eng.ask (decide ((4294967296:Int)<=zCQa2 x)) ((0:Int)<=(32:Int)/\Eng.ask (decide ((65536:Int)<=zCQa7 x)) ((0:Int)<=(16:Int)/\Eng.ask (decide ((256:Int)<=zCQa11 x)) (zCQa10/\(0:Int)<=IntKind.u8.wrap (zCQa11 x/(256:Int))/\(IntKind.u8.wrap (zCQa11 x/(256:Int))).toNat<256/\∀(q:Int),q=IntKind.i64.wrap (IntKind.i64.wrap (IntKind.i64.wrap (48:Int)+(8:Int))+IntKind.i64.wrap (↑(zCQa1.getD (IntKind.u8.wrap (zCQa11 x/(256:Int))).toNat (0:UInt8)).toNat:Int))->zCQa3) ((0:Int)<=IntKind.u8.wrap (zCQa11 x)/\(IntKind.u8.wrap (zCQa11 x)).toNat<256/\∀(q:Int),q=IntKind.i64.wrap (IntKind.i64.wrap (48:Int)+IntKind.i64.wrap (↑(zCQa1.getD (IntKind.u8.wrap (zCQa11 x)).toNat (0:UInt8)).toNat:Int))->zCQa3)) (Eng.ask (decide ((256:Int)<=zCQa7 x)) (zCQa10/\(0:Int)<=IntKind.u8.wrap (zCQa7 x/(256:Int))/\(IntKind.u8.wrap (zCQa7 x/(256:Int))).toNat<256/\∀(q:Int),q=IntKind.i64.wrap (IntKind.i64.wrap (40:Int)+IntKind.i64.wrap (↑(zCQa1.getD (IntKind.u8.wrap (zCQa7 x/(256:Int))).toNat (0:UInt8)).toNat:Int))->zCQa3) ((0:Int)<=IntKind.u8.wrap (zCQa7 x)/\(IntKind.u8.wrap (zCQa7 x)).toNat<256/\∀(q:Int),q=IntKind.i64.wrap ((32:Int)+IntKind.i64.wrap (↑(zCQa1.getD (IntKind.u8.wrap (zCQa7 x)).toNat (0:UInt8)).toNat:Int))->zCQa3))) (Eng.ask (decide ((65536:Int)<=zCQa2 x)) ((0:Int)<=(16:Int)/\Eng.ask (decide ((256:Int)<=zCQa8 x)) (zCQa10/\(0:Int)<=IntKind.u8.wrap (zCQa8 x/(256:Int))/\(IntKind.u8.wrap (zCQa8 x/(256:Int))).toNat<256/\∀(q:Int),q=IntKind.i64.wrap (IntKind.i64.wrap (IntKind.i64.wrap (16:Int)+(8:Int))+IntKind.i64.wrap (↑(zCQa1.getD (IntKind.u8.wrap (zCQa8 x/(256:Int))).toNat (0:UInt8)).toNat:Int))->zCQa3) ((0:Int)<=IntKind.u8.wrap (zCQa8 x)/\(IntKind.u8.wrap (zCQa8 x)).toNat<256/\∀(q:Int),q=IntKind.i64.wrap (IntKind.i64.wrap (16:Int)+IntKind.i64.wrap (↑(zCQa1.getD (IntKind.u8.wrap (zCQa8 x)).toNat (0:UInt8)).toNat:Int))->zCQa3)) (Eng.ask (decide ((256:Int)<=zCQa2 x)) (zCQa10/\(0:Int)<=IntKind.u8.wrap (zCQa2 x/(256:Int))/\(IntKind.u8.wrap (zCQa2 x/(256:Int))).toNat<256/\∀(q:Int),q=IntKind.i64.wrap (IntKind.i64.wrap (8:Int)+IntKind.i64.wrap (↑(zCQa1.getD (IntKind.u8.wrap (zCQa2 x/(256:Int))).toNat (0:UInt8)).toNat:Int))->zCQa3) ((0:Int)<=IntKind.u8.wrap (zCQa2 x)/\(IntKind.u8.wrap (zCQa2 x)).toNat<256/\∀(q:Int),q=IntKind.i64.wrap ((0:Int)+IntKind.i64.wrap (↑(zCQa1.getD (IntKind.u8.wrap (zCQa2 x)).toNat (0:UInt8)).toNat:Int))->zCQa3)))) (Eng.ask (decide ((4294967296:Int)<=IntKind.u64.wrap x)) ((0:Int)<=(32:Int)/\Eng.ask (decide ((65536:Int)<=zCQa4 x)) ((0:Int)<=(16:Int)/\Eng.ask (decide ((256:Int)<=zCQa9 x)) (zCQa10/\(0:Int)<=IntKind.u8.wrap (zCQa9 x/(256:Int))/\(IntKind.u8.wrap (zCQa9 x/(256:Int))).toNat<256/\∀(q:Int),q=IntKind.i64.wrap (IntKind.i64.wrap (IntKind.i64.wrap (48:Int)+(8:Int))+IntKind.i64.wrap (↑(zCQa1.getD (IntKind.u8.wrap (zCQa9 x/(256:Int))).toNat (0:UInt8)).toNat:Int))->zCQa3) ((0:Int)<=IntKind.u8.wrap (zCQa9 x)/\(IntKind.u8.wrap (zCQa9 x)).toNat<256/\∀(q:Int),q=IntKind.i64.wrap (IntKind.i64.wrap (48:Int)+IntKind.i64.wrap (↑(zCQa1.getD (IntKind.u8.wrap (zCQa9 x)).toNat (0:UInt8)).toNat:Int))->zCQa3)) (Eng.ask (decide ((256:Int)<=zCQa4 x)) (zCQa10/\(0:Int)<=IntKind.u8.wrap (zCQa4 x/(256:Int))/\(IntKind.u8.wrap (zCQa4 x/(256:Int))).toNat<256/\∀(q:Int),q=IntKind.i64.wrap (IntKind.i64.wrap (40:Int)+IntKind.i64.wrap (↑(zCQa1.getD (IntKind.u8.wrap (zCQa4 x/(256:Int))).toNat (0:UInt8)).toNat:Int))->zCQa3) ((0:Int)<=IntKind.u8.wrap (zCQa4 x)/\(IntKind.u8.wrap (zCQa4 x)).toNat<256/\∀(q:Int),q=IntKind.i64.wrap ((32:Int)+IntKind.i64.wrap (↑(zCQa1.getD (IntKind.u8.wrap (zCQa4 x)).toNat (0:UInt8)).toNat:Int))->zCQa3))) (Eng.ask (decide ((65536:Int)<=IntKind.u64.wrap x)) ((0:Int)<=(16:Int)/\Eng.ask (decide ((256:Int)<=zCQa6 x)) (zCQa10/\(0:Int)<=IntKind.u8.wrap (zCQa6 x/(256:Int))/\(IntKind.u8.wrap (zCQa6 x/(256:Int))).toNat<256/\∀(q:Int),q=IntKind.i64.wrap (IntKind.i64.wrap (IntKind.i64.wrap (16:Int)+(8:Int))+IntKind.i64.wrap (↑(zCQa1.getD (IntKind.u8.wrap (zCQa6 x/(256:Int))).toNat (0:UInt8)).toNat:Int))->zCQa3) ((0:Int)<=IntKind.u8.wrap (zCQa6 x)/\(IntKind.u8.wrap (zCQa6 x)).toNat<256/\∀(q:Int),q=IntKind.i64.wrap (IntKind.i64.wrap (16:Int)+IntKind.i64.wrap (↑(zCQa1.getD (IntKind.u8.wrap (zCQa6 x)).toNat (0:UInt8)).toNat:Int))->zCQa3)) (Eng.ask (decide ((256:Int)<=IntKind.u64.wrap x)) (zCQa10/\(0:Int)<=IntKind.u8.wrap (IntKind.u64.wrap x/(256:Int))/\(IntKind.u8.wrap (IntKind.u64.wrap x/(256:Int))).toNat<256/\∀(q:Int),q=IntKind.i64.wrap (IntKind.i64.wrap (8:Int)+IntKind.i64.wrap (↑(zCQa1.getD (IntKind.u8.wrap (IntKind.u64.wrap x/(256:Int))).toNat (0:UInt8)).toNat:Int))->zCQa3) ((0:Int)<=IntKind.u8.wrap (IntKind.u64.wrap x)/\(IntKind.u8.wrap (IntKind.u64.wrap x)).toNat<256/\∀(q:Int),q=IntKind.i64.wrap ((0:Int)+IntKind.i64.wrap (↑(zCQa1.getD (IntKind.u8.wrap (IntKind.u64.wrap x)).toNat (0:UInt8)).toNat:Int))->zCQa3)))))
theorem eq_Itoa:vc_Itoa=nf_Itoa:=by kernel_rfl
theorem pf_Itoa:nf_Itoa:=by
 delta nf_Itoa zCQa0 zCQa2 zCQa3 zCQa4 zCQa5 zCQa6 zCQa10 zCQa1 zCQa7 zCQa8 zCQa9 zCQa11
 intro x0
 intro ⟨h1,h2⟩
 intro q3 hq3;subst hq3
 refine ⟨by (simp;done),by (simp;done), ?_⟩
 refine ask_p (bp_and bp_dec bp_dec) ?_ ?_
 ·intro ⟨h4,h5⟩
  refine ask_p bp_dec ?_ ?_
  ·intro h6
   refine ⟨by (obtain ⟨n,rfl⟩:=Int.eq_ofNat_of_zero_le h1;have hn:n<100:=(by omega);have hh:n<10:=(by omega);clear h1 h2 h4 h5 h6;revert hh;revert hn;revert n;decide+kernel),by (obtain ⟨n,rfl⟩:=Int.eq_ofNat_of_zero_le h1;have hn:n<100:=(by omega);have hh:n<10:=(by omega);clear h1 h2 h4 h5 h6;revert hh;revert hn;revert n;decide+kernel),by (obtain ⟨n,rfl⟩:=Int.eq_ofNat_of_zero_le h1;have hn:n<100:=(by omega);have hh:n<10:=(by omega);clear h1 h2 h4 h5 h6;revert hh;revert hn;revert n;decide+kernel),by (obtain ⟨n,rfl⟩:=Int.eq_ofNat_of_zero_le h1;have hn:n<100:=(by omega);have hh:n<10:=(by omega);clear h1 h2 h4 h5 h6;revert hh;revert hn;revert n;decide+kernel),by (obtain ⟨n,rfl⟩:=Int.eq_ofNat_of_zero_le h1;have hn:n<100:=(by omega);have hh:n<10:=(by omega);clear h1 h2 h4 h5 h6;revert hh;revert hn;revert n;decide+kernel), ?_⟩
   trivial
  intro h6
  refine ⟨by (obtain ⟨n,rfl⟩:=Int.eq_ofNat_of_zero_le h1;have hn:n<100:=(by omega);have hh:¬n<10:=(by omega);clear h1 h2 h4 h5 h6;revert hh;revert hn;revert n;decide+kernel),by (obtain ⟨n,rfl⟩:=Int.eq_ofNat_of_zero_le h1;have hn:n<100:=(by omega);have hh:¬n<10:=(by omega);clear h1 h2 h4 h5 h6;revert hh;revert hn;revert n;decide+kernel),by (obtain ⟨n,rfl⟩:=Int.eq_ofNat_of_zero_le h1;have hn:n<100:=(by omega);have hh:¬n<10:=(by omega);clear h1 h2 h4 h5 h6;revert hh;revert hn;revert n;decide+kernel),by (obtain ⟨n,rfl⟩:=Int.eq_ofNat_of_zero_le h1;have hn:n<100:=(by omega);have hh:¬n<10:=(by omega);clear h1 h2 h4 h5 h6;revert hh;revert hn;revert n;decide+kernel),by (obtain ⟨n,rfl⟩:=Int.eq_ofNat_of_zero_le h1;have hn:n<100:=(by omega);have hh:¬n<10:=(by omega);clear h1 h2 h4 h5 h6;revert hh;revert hn;revert n;decide+kernel), ?_⟩
  trivial
 intro h4
 exfalso;omega
def nf_text1:Prop:=
 ∀(x:LOp),FMayOp x=true/\x.kind=(1:Int)->(0:Int)<=(1:Int)/\1<6/\∃(x_1:List UInt8),x_1.length<1048577/\(false=true->false=true)/\x_1=x.key/\True/\∃(x_2:XJ),(0<x_2.l.length/\x_2.l.length<=1099511627776/\(joinL x_2.l x_2.sep).length<1099511627776)/\(false=true->false=true->3≠0\/3≠0)/\x_2.l.length=3/\x_2.l.getD 0 []=[(103:UInt8),(101:UInt8),(116:UInt8)]/\x_2.l.getD 1 []=x.table/\x_2.l.getD 2 []=FTx x_1/\x_2.sep=[(32:UInt8)]/\(True/\True)/\FTxOp x=joinL x_2.l x_2.sep/\True
theorem eq_text1:vc_text1=nf_text1:=by kernel_rfl
theorem pf_text1:nf_text1:=by
 delta nf_text1
 intro x0
 intro ⟨h1,h2⟩
 refine ⟨by decide,by decide, ?_⟩
 refine ⟨(x0.key), ?_⟩
 try dsimp only
 refine ⟨by (obtain ⟨e0,e1,e2,e3,e4,e5,e6,e7,e8,e9⟩:=tx_lens h1;omega),by (simp;done),by rfl,by trivial, ?_⟩
 refine ⟨⟨[[103,101,116],x0.table,FTx x0.key],[32]⟩, ?_⟩
 try dsimp only
 refine ⟨?_, ?_⟩
 ·refine ⟨by (obtain ⟨e0,e1,e2,e3,e4,e5,e6,e7,e8,e9⟩:=tx_lens h1;simp only [joinL,List.append_eq,List.length_append,List.length_cons,List.length_nil];omega),by (obtain ⟨e0,e1,e2,e3,e4,e5,e6,e7,e8,e9⟩:=tx_lens h1;simp only [joinL,List.append_eq,List.length_append,List.length_cons,List.length_nil];omega), ?_⟩
  (obtain ⟨e0,e1,e2,e3,e4,e5,e6,e7,e8,e9⟩:=tx_lens h1;simp only [joinL,List.append_eq,List.length_append,List.length_cons,List.length_nil];omega)
 refine ⟨by (simp;done),by (simp [FTxOp,FWds,FKw,FOld,joinL, *];done),by (simp [FTxOp,FWds,FKw,FOld,joinL, *];done),by (simp [FTxOp,FWds,FKw,FOld,joinL, *];done),by (simp [FTxOp,FWds,FKw,FOld,joinL, *];done),by rfl,by (simp;done),by (simp [FTxOp,FWds,FKw,FOld,joinL, *];done), ?_⟩
 trivial
def nf_text2:Prop:=
 ∀(x:LOp),FMayOp x=true/\x.kind=(2:Int)->(0:Int)<=(2:Int)/\2<6/\∃(x_1:List UInt8),x_1.length<1048577/\(false=true->false=true)/\x_1=x.key/\True/\∃(x_2:List UInt8),x_2.length<1048577/\(false=true->false=true)/\x_2=x.value/\True/\64<1099511627776/\∃(x_3:XJ),(0<x_3.l.length/\x_3.l.length<=1099511627776/\(joinL x_3.l x_3.sep).length<1099511627776)/\(false=true->true=true->4≠0\/4≠0)/\x_3.l.length=4/\4<=4/\(∀(i:Nat),i<x_3.l.length->match (fun (i:Nat)=>bif i.blt 3 then List.take 1 (List.drop ((0+i)*1) [SV.str [(112:UInt8),(117:UInt8),(116:UInt8)],SV.str x.table,SV.str (FTx x_1)]) else List.take 1 (List.drop ((0+(i-3))*1) [SV.str (FTx x_2)])) (0+i) with | b::y=>leV (SV.str (x_3.l.getD i [])) b/\leL [] y | x=>False)/\x_3.sep=[(32:UInt8)]/\(True/\True)/\FTxOp x=joinL x_3.l x_3.sep/\True
theorem eq_text2:vc_text2=nf_text2:=by kernel_rfl
theorem pf_text2:nf_text2:=by
 delta nf_text2
 intro x0
 intro ⟨h1,h2⟩
 refine ⟨by decide,by decide, ?_⟩
 refine ⟨(x0.key), ?_⟩
 try dsimp only
 refine ⟨by (obtain ⟨e0,e1,e2,e3,e4,e5,e6,e7,e8,e9⟩:=tx_lens h1;omega),by (simp;done),by rfl,by trivial, ?_⟩
 refine ⟨(x0.value), ?_⟩
 try dsimp only
 refine ⟨by (obtain ⟨e0,e1,e2,e3,e4,e5,e6,e7,e8,e9⟩:=tx_lens h1;omega),by (simp;done),by rfl,by trivial,by decide, ?_⟩
 refine ⟨⟨[[112,117,116],x0.table,FTx x0.key,FTx x0.value],[32]⟩, ?_⟩
 try dsimp only
 refine ⟨?_, ?_⟩
 ·refine ⟨by (obtain ⟨e0,e1,e2,e3,e4,e5,e6,e7,e8,e9⟩:=tx_lens h1;simp only [joinL,List.append_eq,List.length_append,List.length_cons,List.length_nil];omega),by (obtain ⟨e0,e1,e2,e3,e4,e5,e6,e7,e8,e9⟩:=tx_lens h1;simp only [joinL,List.append_eq,List.length_append,List.length_cons,List.length_nil];omega), ?_⟩
  (obtain ⟨e0,e1,e2,e3,e4,e5,e6,e7,e8,e9⟩:=tx_lens h1;simp only [joinL,List.append_eq,List.length_append,List.length_cons,List.length_nil];omega)
 refine ⟨by (simp;done),by (simp [FTxOp,FWds,FKw,FOld,joinL, *];done),by decide, ?_⟩
 refine ⟨?_, ?_⟩
 ·intro i3
  intro h4
  (revert h4;rcases i3 with _ | _ | _ | _ | _ | i<;>intro hq<;>first | exact ⟨rfl,trivial⟩ | (exfalso;simp only [List.length_cons,List.length_nil] at hq;omega))
 refine ⟨by rfl,by (simp;done),by (simp [FTxOp,FWds,FKw,FOld,joinL, *];done), ?_⟩
 trivial
def nf_text3:Prop:=
 ∀(x:LOp),FMayOp x=true/\x.kind=(3:Int)->(0:Int)<=(3:Int)/\3<6/\∃(x_1:List UInt8),x_1.length<1048577/\(false=true->false=true)/\x_1=x.key/\True/\∃(x_2:XJ),(0<x_2.l.length/\x_2.l.length<=1099511627776/\(joinL x_2.l x_2.sep).length<1099511627776)/\(false=true->false=true->3≠0\/3≠0)/\x_2.l.length=3/\x_2.l.getD 0 []=[(100:UInt8),(101:UInt8),(108:UInt8),(101:UInt8),(116:UInt8),(101:UInt8)]/\x_2.l.getD 1 []=x.table/\x_2.l.getD 2 []=FTx x_1/\x_2.sep=[(32:UInt8)]/\(True/\True)/\FTxOp x=joinL x_2.l x_2.sep/\True
theorem eq_text3:vc_text3=nf_text3:=by kernel_rfl
theorem pf_text3:nf_text3:=by
 delta nf_text3
 intro x0
 intro ⟨h1,h2⟩
 refine ⟨by decide,by decide, ?_⟩
 refine ⟨(x0.key), ?_⟩
 try dsimp only
 refine ⟨by (obtain ⟨e0,e1,e2,e3,e4,e5,e6,e7,e8,e9⟩:=tx_lens h1;omega),by (simp;done),by rfl,by trivial, ?_⟩
 refine ⟨⟨[[100,101,108,101,116,101],x0.table,FTx x0.key],[32]⟩, ?_⟩
 try dsimp only
 refine ⟨?_, ?_⟩
 ·refine ⟨by (obtain ⟨e0,e1,e2,e3,e4,e5,e6,e7,e8,e9⟩:=tx_lens h1;simp only [joinL,List.append_eq,List.length_append,List.length_cons,List.length_nil];omega),by (obtain ⟨e0,e1,e2,e3,e4,e5,e6,e7,e8,e9⟩:=tx_lens h1;simp only [joinL,List.append_eq,List.length_append,List.length_cons,List.length_nil];omega), ?_⟩
  (obtain ⟨e0,e1,e2,e3,e4,e5,e6,e7,e8,e9⟩:=tx_lens h1;simp only [joinL,List.append_eq,List.length_append,List.length_cons,List.length_nil];omega)
 refine ⟨by (simp;done),by (simp [FTxOp,FWds,FKw,FOld,joinL, *];done),by (simp [FTxOp,FWds,FKw,FOld,joinL, *];done),by (simp [FTxOp,FWds,FKw,FOld,joinL, *];done),by (simp [FTxOp,FWds,FKw,FOld,joinL, *];done),by rfl,by (simp;done),by (simp [FTxOp,FWds,FKw,FOld,joinL, *];done), ?_⟩
 trivial
abbrev zCQe0:XJ->Prop->Prop:=fun x0 p=>(0<x0.l.length/\x0.l.length<=1099511627776/\(joinL x0.l x0.sep).length<1099511627776)/\(false=true->true=true->5≠0\/5≠0)/\x0.l.length=5/\5<=5/\p
abbrev zCQe1:List UInt8->Prop->Prop:=fun x0 p=>x0.length<1048577/\(false=true->false=true)/\p
abbrev zCQe2:XJ->LOp->Prop:=fun x0 x1=>x0.sep=[(32:UInt8)]/\(True/\True)/\FTxOp x1=joinL x0.l x0.sep/\True
def nf_text4:Prop:=
 ∀(x:LOp),FMayOp x=true/\x.kind=(4:Int)->(0:Int)<=(4:Int)/\4<6/\∃(x_1:List UInt8),zCQe1 x_1 (x_1=x.key/\True/\Eng.ask x.has (∃(x_2:List UInt8),zCQe1 x_2 (x_2=x.old/\True/\1+(FTx x_2).length<1099511627776/\∃(x_3:List UInt8),zCQe1 x_3 (x_3=x.value/\True/\80<1099511627776/\∃(x_4:XJ),zCQe0 x_4 ((∀(i:Nat),i<x_4.l.length->match (fun (i:Nat)=>bif i.blt 3 then List.take 1 (List.drop ((0+i)*1) [SV.str [(115:UInt8),(119:UInt8),(97:UInt8),(112:UInt8)],SV.str x.table,SV.str (FTx x_1)]) else List.take 1 (List.drop ((0+(i-3))*1) [SV.str ((43:UInt8)::FTx x_2),SV.str (FTx x_3)])) (0+i) with | b::y=>leV (SV.str (x_4.l.getD i [])) b/\leL [] y | x=>False)/\zCQe2 x_4 x)))) (∃(x_2:List UInt8),zCQe1 x_2 (x_2=x.value/\True/\80<1099511627776/\∃(x_3:XJ),zCQe0 x_3 ((∀(i:Nat),i<x_3.l.length->match (fun (i:Nat)=>bif i.blt 3 then List.take 1 (List.drop ((0+i)*1) [SV.str [(115:UInt8),(119:UInt8),(97:UInt8),(112:UInt8)],SV.str x.table,SV.str (FTx x_1)]) else List.take 1 (List.drop ((0+(i-3))*1) [SV.str [(45:UInt8)],SV.str (FTx x_2)])) (0+i) with | b::y=>leV (SV.str (x_3.l.getD i [])) b/\leL [] y | x=>False)/\zCQe2 x_3 x))))
theorem eq_text4:vc_text4=nf_text4:=by kernel_rfl
theorem pf_text4:nf_text4:=by
 delta nf_text4 zCQe0 zCQe1 zCQe2
 intro x0
 intro ⟨h1,h2⟩
 refine ⟨by decide,by decide, ?_⟩
 refine ⟨(x0.key), ?_⟩
 try dsimp only
 refine ⟨by (obtain ⟨e0,e1,e2,e3,e4,e5,e6,e7,e8,e9⟩:=tx_lens h1;omega),by (simp;done),by rfl,by trivial, ?_⟩
 refine ask_p bp_id ?_ ?_
 ·intro h3
  refine ⟨(x0.old), ?_⟩
  try dsimp only
  refine ⟨by (obtain ⟨e0,e1,e2,e3,e4,e5,e6,e7,e8,e9⟩:=tx_lens h1;omega),by (simp;done),by rfl,by trivial,by (obtain ⟨e0,e1,e2,e3,e4,e5,e6,e7,e8,e9⟩:=tx_lens h1;omega), ?_⟩
  refine ⟨(x0.value), ?_⟩
  try dsimp only
  refine ⟨by (obtain ⟨e0,e1,e2,e3,e4,e5,e6,e7,e8,e9⟩:=tx_lens h1;omega),by (simp;done),by rfl,by trivial,by decide, ?_⟩
  refine ⟨⟨[[115,119,97,112],x0.table,FTx x0.key,43::FTx x0.old,FTx x0.value],[32]⟩, ?_⟩
  try dsimp only
  refine ⟨?_, ?_⟩
  ·refine ⟨by (obtain ⟨e0,e1,e2,e3,e4,e5,e6,e7,e8,e9⟩:=tx_lens h1;simp only [joinL,List.append_eq,List.length_append,List.length_cons,List.length_nil];omega),by (obtain ⟨e0,e1,e2,e3,e4,e5,e6,e7,e8,e9⟩:=tx_lens h1;simp only [joinL,List.append_eq,List.length_append,List.length_cons,List.length_nil];omega), ?_⟩
   (obtain ⟨e0,e1,e2,e3,e4,e5,e6,e7,e8,e9⟩:=tx_lens h1;simp only [joinL,List.append_eq,List.length_append,List.length_cons,List.length_nil];omega)
  refine ⟨by (simp;done),by (simp [FTxOp,FWds,FKw,FOld,joinL, *];done),by decide, ?_⟩
  refine ⟨?_, ?_⟩
  ·intro i4
   intro h5
   (revert h5;rcases i4 with _ | _ | _ | _ | _ | i<;>intro hq<;>first | exact ⟨rfl,trivial⟩ | (exfalso;simp only [List.length_cons,List.length_nil] at hq;omega))
  refine ⟨by rfl,by (simp;done),by (simp [FTxOp,FWds,FKw,FOld,joinL, *];done), ?_⟩
  trivial
 intro h3
 refine ⟨(x0.value), ?_⟩
 try dsimp only
 refine ⟨by (obtain ⟨e0,e1,e2,e3,e4,e5,e6,e7,e8,e9⟩:=tx_lens h1;omega),by (simp;done),by rfl,by trivial,by decide, ?_⟩
 refine ⟨⟨[[115,119,97,112],x0.table,FTx x0.key,[45],FTx x0.value],[32]⟩, ?_⟩
 try dsimp only
 refine ⟨?_, ?_⟩
 ·refine ⟨by (obtain ⟨e0,e1,e2,e3,e4,e5,e6,e7,e8,e9⟩:=tx_lens h1;simp only [joinL,List.append_eq,List.length_append,List.length_cons,List.length_nil];omega),by (obtain ⟨e0,e1,e2,e3,e4,e5,e6,e7,e8,e9⟩:=tx_lens h1;simp only [joinL,List.append_eq,List.length_append,List.length_cons,List.length_nil];omega), ?_⟩
  (obtain ⟨e0,e1,e2,e3,e4,e5,e6,e7,e8,e9⟩:=tx_lens h1;simp only [joinL,List.append_eq,List.length_append,List.length_cons,List.length_nil];omega)
 refine ⟨by (simp;done),by (simp [FTxOp,FWds,FKw,FOld,joinL, *];done),by decide, ?_⟩
 refine ⟨?_, ?_⟩
 ·intro i4
  intro h5
  (revert h5;rcases i4 with _ | _ | _ | _ | _ | i<;>intro hq<;>first | exact ⟨rfl,trivial⟩ | (exfalso;simp only [List.length_cons,List.length_nil] at hq;omega))
 refine ⟨by rfl,by (simp;done),by (simp [FTxOp,FWds,FKw,FOld,joinL, *];done), ?_⟩
 trivial
def nf_text5:Prop:=
 ∀(x:LOp),FMayOp x=true/\x.kind=(5:Int)->(0:Int)<=(5:Int)/\5<6/\∃(x_1:List UInt8),x_1.length<1048577/\(false=true->false=true)/\x_1=x.key/\True/\∃(x_2:List UInt8),x_2.length<1048577/\(false=true->false=true)/\x_2=x.to/\True/\∃(x_3:Int),((0:Int)<=x_3/\x_3<(100:Int))/\x_3=x.most/\True/\80<1099511627776/\∃(x_4:XJ),(0<x_4.l.length/\x_4.l.length<=1099511627776/\(joinL x_4.l x_4.sep).length<1099511627776)/\(false=true->true=true->5≠0\/5≠0)/\x_4.l.length=5/\5<=5/\(∀(i:Nat),i<x_4.l.length->match (fun (i:Nat)=>bif i.blt 3 then List.take 1 (List.drop ((0+i)*1) [SV.str [(115:UInt8),(99:UInt8),(97:UInt8),(110:UInt8)],SV.str x.table,SV.str (FTx x_1)]) else List.take 1 (List.drop ((0+(i-3))*1) [SV.str (FTx x_2),SV.str (FItoa x_3.toNat)])) (0+i) with | b::y=>leV (SV.str (x_4.l.getD i [])) b/\leL [] y | x=>False)/\x_4.sep=[(32:UInt8)]/\(True/\True)/\FTxOp x=joinL x_4.l x_4.sep/\True
theorem eq_text5:vc_text5=nf_text5:=by kernel_rfl
theorem pf_text5:nf_text5:=by
 delta nf_text5
 intro x0
 intro ⟨h1,h2⟩
 refine ⟨by decide,by decide, ?_⟩
 refine ⟨(x0.key), ?_⟩
 try dsimp only
 refine ⟨by (obtain ⟨e0,e1,e2,e3,e4,e5,e6,e7,e8,e9⟩:=tx_lens h1;omega),by (simp;done),by rfl,by trivial, ?_⟩
 refine ⟨(x0.to), ?_⟩
 try dsimp only
 refine ⟨by (obtain ⟨e0,e1,e2,e3,e4,e5,e6,e7,e8,e9⟩:=tx_lens h1;omega),by (simp;done),by rfl,by trivial, ?_⟩
 refine ⟨(x0.most), ?_⟩
 try dsimp only
 refine ⟨?_, ?_⟩
 ·refine ⟨by exact (most_le h1).1, ?_⟩
  exact (most_le h1).2
 refine ⟨by rfl,by trivial,by decide, ?_⟩
 refine ⟨⟨[[115,99,97,110],x0.table,FTx x0.key,FTx x0.to,FItoa x0.most.toNat],[32]⟩, ?_⟩
 try dsimp only
 refine ⟨?_, ?_⟩
 ·refine ⟨by (obtain ⟨e0,e1,e2,e3,e4,e5,e6,e7,e8,e9⟩:=tx_lens h1;simp only [joinL,List.append_eq,List.length_append,List.length_cons,List.length_nil];omega),by (obtain ⟨e0,e1,e2,e3,e4,e5,e6,e7,e8,e9⟩:=tx_lens h1;simp only [joinL,List.append_eq,List.length_append,List.length_cons,List.length_nil];omega), ?_⟩
  (obtain ⟨e0,e1,e2,e3,e4,e5,e6,e7,e8,e9⟩:=tx_lens h1;simp only [joinL,List.append_eq,List.length_append,List.length_cons,List.length_nil];omega)
 refine ⟨by (simp;done),by (simp [FTxOp,FWds,FKw,FOld,joinL, *];done),by decide, ?_⟩
 refine ⟨?_, ?_⟩
 ·intro i3
  intro h4
  (revert h4;rcases i3 with _ | _ | _ | _ | _ | i<;>intro hq<;>first | exact ⟨rfl,trivial⟩ | (exfalso;simp only [List.length_cons,List.length_nil] at hq;omega))
 refine ⟨by rfl,by (simp;done),by (simp [FTxOp,FWds,FKw,FOld,joinL, *];done), ?_⟩
 trivial
abbrev zCQg1:List UInt8->Prop->Prop:=fun x0 p=>x0.length<1048577/\(false=true->false=true)/\p
abbrev zCQg4:List UInt8:=[(32:UInt8)]
abbrev zCQg0:LOp->List UInt8->List UInt8:=fun x0 x1=>(x0.table.append zCQg4).append (FTx x1)
abbrev zCQg2:LOp->List UInt8->List UInt8:=fun x0 x1=>(zCQg0 x0 x1).append zCQg4
abbrev zCQg3:LOp->List UInt8->List UInt8:=fun x0 x1=>(32:UInt8)::zCQg0 x0 x1
abbrev zCQg5:LOp->List UInt8->Prop->Prop:=fun x0 x1 p=>4+(zCQg3 x0 x1).length<1099511627776/\((115:UInt8)::(119:UInt8)::(97:UInt8)::(112:UInt8)::zCQg3 x0 x1).length+1<1099511627776/\p
abbrev zCQg6:LOp->List UInt8->Nat:=fun x0 x1=>((115:UInt8)::(119:UInt8)::(97:UInt8)::(112:UInt8)::(32:UInt8)::zCQg2 x0 x1).length
def nf_line:Prop:=
 ∀(x:LOp),FMayOp x=true->1+x.table.length<1099511627776/\((32:UInt8)::x.table).length+1<1099511627776/\∃(x_1:List UInt8),zCQg1 x_1 (x_1=x.key/\True/\((32:UInt8)::x.table.append zCQg4).length+(FTx x_1).length<1099511627776/\Eng.ask (decide (x.kind=(1:Int))) (3+(zCQg3 x x_1).length<1099511627776/\FTxOp x=(103:UInt8)::(101:UInt8)::(116:UInt8)::zCQg3 x x_1/\True) (Eng.ask (decide (x.kind=(2:Int))) (3+(zCQg3 x x_1).length<1099511627776/\((112:UInt8)::(117:UInt8)::(116:UInt8)::zCQg3 x x_1).length+1<1099511627776/\∃(x_2:List UInt8),zCQg1 x_2 (x_2=x.value/\True/\((112:UInt8)::(117:UInt8)::(116:UInt8)::(32:UInt8)::zCQg2 x x_1).length+(FTx x_2).length<1099511627776/\FTxOp x=(112:UInt8)::(117:UInt8)::(116:UInt8)::(32:UInt8)::(zCQg2 x x_1).append (FTx x_2)/\True)) (Eng.ask (decide (x.kind=(3:Int))) (6+(zCQg3 x x_1).length<1099511627776/\FTxOp x=(100:UInt8)::(101:UInt8)::(108:UInt8)::(101:UInt8)::(116:UInt8)::(101:UInt8)::zCQg3 x x_1/\True) (Eng.ask (decide (x.kind=(4:Int))) (Eng.ask x.has (∃(x_2:List UInt8),zCQg1 x_2 (x_2=x.old/\True/\1+(FTx x_2).length<1099511627776/\zCQg5 x x_1 (zCQg6 x x_1+((43:UInt8)::FTx x_2).length<1099511627776/\((115:UInt8)::(119:UInt8)::(97:UInt8)::(112:UInt8)::(32:UInt8)::(zCQg2 x x_1).append ((43:UInt8)::FTx x_2)).length+1<1099511627776/\∃(x_3:List UInt8),zCQg1 x_3 (x_3=x.value/\True/\((115:UInt8)::(119:UInt8)::(97:UInt8)::(112:UInt8)::(32:UInt8)::((zCQg2 x x_1).append ((43:UInt8)::FTx x_2)).append zCQg4).length+(FTx x_3).length<1099511627776/\FTxOp x=(115:UInt8)::(119:UInt8)::(97:UInt8)::(112:UInt8)::(32:UInt8)::(((zCQg2 x x_1).append ((43:UInt8)::FTx x_2)).append zCQg4).append (FTx x_3)/\True)))) (zCQg5 x x_1 (zCQg6 x x_1+1<1099511627776/\((115:UInt8)::(119:UInt8)::(97:UInt8)::(112:UInt8)::(32:UInt8)::(zCQg2 x x_1).append [(45:UInt8)]).length+1<1099511627776/\∃(x_2:List UInt8),zCQg1 x_2 (x_2=x.value/\True/\((115:UInt8)::(119:UInt8)::(97:UInt8)::(112:UInt8)::(32:UInt8)::((zCQg2 x x_1).append [(45:UInt8)]).append zCQg4).length+(FTx x_2).length<1099511627776/\FTxOp x=(115:UInt8)::(119:UInt8)::(97:UInt8)::(112:UInt8)::(32:UInt8)::(((zCQg2 x x_1).append [(45:UInt8)]).append zCQg4).append (FTx x_2)/\True)))) (4+(zCQg3 x x_1).length<1099511627776/\((115:UInt8)::(99:UInt8)::(97:UInt8)::(110:UInt8)::zCQg3 x x_1).length+1<1099511627776/\∃(x_2:List UInt8),zCQg1 x_2 (x_2=x.to/\True/\((115:UInt8)::(99:UInt8)::(97:UInt8)::(110:UInt8)::(32:UInt8)::zCQg2 x x_1).length+(FTx x_2).length<1099511627776/\((115:UInt8)::(99:UInt8)::(97:UInt8)::(110:UInt8)::(32:UInt8)::(zCQg2 x x_1).append (FTx x_2)).length+1<1099511627776/\∃(x_3:Int),((0:Int)<=x_3/\x_3<(100:Int))/\x_3=x.most/\True/\((115:UInt8)::(99:UInt8)::(97:UInt8)::(110:UInt8)::(32:UInt8)::((zCQg2 x x_1).append (FTx x_2)).append zCQg4).length+(FItoa x_3.toNat).length<1099511627776/\FTxOp x=(115:UInt8)::(99:UInt8)::(97:UInt8)::(110:UInt8)::(32:UInt8)::(((zCQg2 x x_1).append (FTx x_2)).append zCQg4).append (FItoa x_3.toNat)/\True))))))
theorem eq_line:vc_line=nf_line:=by kernel_rfl
theorem pf_line:nf_line:=by
 delta nf_line zCQg1 zCQg4 zCQg0 zCQg2 zCQg3 zCQg5 zCQg6
 intro x0
 intro h1
 refine ⟨by (obtain ⟨e0,e1,e2,e3,e4,e5,e6,e7,e8,e9⟩:=tx_lens h1;omega),by (obtain ⟨e0,e1,e2,e3,e4,e5,e6,e7,e8,e9⟩:=tx_lens h1;simp only [joinL,List.append_eq,List.length_append,List.length_cons,List.length_nil];omega), ?_⟩
 refine ⟨(x0.key), ?_⟩
 try dsimp only
 refine ⟨by (obtain ⟨e0,e1,e2,e3,e4,e5,e6,e7,e8,e9⟩:=tx_lens h1;omega),by (simp;done),by rfl,by trivial,by (obtain ⟨e0,e1,e2,e3,e4,e5,e6,e7,e8,e9⟩:=tx_lens h1;simp only [joinL,List.append_eq,List.length_append,List.length_cons,List.length_nil];omega), ?_⟩
 refine ask_p bp_dec ?_ ?_
 ·intro h2
  refine ⟨by (obtain ⟨e0,e1,e2,e3,e4,e5,e6,e7,e8,e9⟩:=tx_lens h1;simp only [joinL,List.append_eq,List.length_append,List.length_cons,List.length_nil];omega),by (simp [FTxOp,FWds,FKw,FOld,joinL, *];done), ?_⟩
  trivial
 intro h2
 refine ask_p bp_dec ?_ ?_
 ·intro h3
  refine ⟨by (obtain ⟨e0,e1,e2,e3,e4,e5,e6,e7,e8,e9⟩:=tx_lens h1;simp only [joinL,List.append_eq,List.length_append,List.length_cons,List.length_nil];omega),by (obtain ⟨e0,e1,e2,e3,e4,e5,e6,e7,e8,e9⟩:=tx_lens h1;simp only [joinL,List.append_eq,List.length_append,List.length_cons,List.length_nil];omega), ?_⟩
  refine ⟨(x0.value), ?_⟩
  try dsimp only
  refine ⟨by (obtain ⟨e0,e1,e2,e3,e4,e5,e6,e7,e8,e9⟩:=tx_lens h1;omega),by (simp;done),by rfl,by trivial,by (obtain ⟨e0,e1,e2,e3,e4,e5,e6,e7,e8,e9⟩:=tx_lens h1;simp only [joinL,List.append_eq,List.length_append,List.length_cons,List.length_nil];omega),by (simp [FTxOp,FWds,FKw,FOld,joinL, *];done), ?_⟩
  trivial
 intro h3
 refine ask_p bp_dec ?_ ?_
 ·intro h4
  refine ⟨by (obtain ⟨e0,e1,e2,e3,e4,e5,e6,e7,e8,e9⟩:=tx_lens h1;simp only [joinL,List.append_eq,List.length_append,List.length_cons,List.length_nil];omega),by (simp [FTxOp,FWds,FKw,FOld,joinL, *];done), ?_⟩
  trivial
 intro h4
 refine ask_p bp_dec ?_ ?_
 ·intro h5
  refine ask_p bp_id ?_ ?_
  ·intro h6
   refine ⟨(x0.old), ?_⟩
   try dsimp only
   refine ⟨by (obtain ⟨e0,e1,e2,e3,e4,e5,e6,e7,e8,e9⟩:=tx_lens h1;omega),by (simp;done),by rfl,by trivial,by (obtain ⟨e0,e1,e2,e3,e4,e5,e6,e7,e8,e9⟩:=tx_lens h1;omega),by (obtain ⟨e0,e1,e2,e3,e4,e5,e6,e7,e8,e9⟩:=tx_lens h1;simp only [joinL,List.append_eq,List.length_append,List.length_cons,List.length_nil];omega),by (obtain ⟨e0,e1,e2,e3,e4,e5,e6,e7,e8,e9⟩:=tx_lens h1;simp only [joinL,List.append_eq,List.length_append,List.length_cons,List.length_nil];omega),by (obtain ⟨e0,e1,e2,e3,e4,e5,e6,e7,e8,e9⟩:=tx_lens h1;simp only [joinL,List.append_eq,List.length_append,List.length_cons,List.length_nil];omega),by (obtain ⟨e0,e1,e2,e3,e4,e5,e6,e7,e8,e9⟩:=tx_lens h1;simp only [joinL,List.append_eq,List.length_append,List.length_cons,List.length_nil];omega), ?_⟩
   refine ⟨(x0.value), ?_⟩
   try dsimp only
   refine ⟨by (obtain ⟨e0,e1,e2,e3,e4,e5,e6,e7,e8,e9⟩:=tx_lens h1;omega),by (simp;done),by rfl,by trivial,by (obtain ⟨e0,e1,e2,e3,e4,e5,e6,e7,e8,e9⟩:=tx_lens h1;simp only [joinL,List.append_eq,List.length_append,List.length_cons,List.length_nil];omega),by (simp [FTxOp,FWds,FKw,FOld,joinL, *];done), ?_⟩
   trivial
  intro h6
  refine ⟨by (obtain ⟨e0,e1,e2,e3,e4,e5,e6,e7,e8,e9⟩:=tx_lens h1;simp only [joinL,List.append_eq,List.length_append,List.length_cons,List.length_nil];omega),by (obtain ⟨e0,e1,e2,e3,e4,e5,e6,e7,e8,e9⟩:=tx_lens h1;simp only [joinL,List.append_eq,List.length_append,List.length_cons,List.length_nil];omega),by (obtain ⟨e0,e1,e2,e3,e4,e5,e6,e7,e8,e9⟩:=tx_lens h1;simp only [joinL,List.append_eq,List.length_append,List.length_cons,List.length_nil];omega),by (obtain ⟨e0,e1,e2,e3,e4,e5,e6,e7,e8,e9⟩:=tx_lens h1;simp only [joinL,List.append_eq,List.length_append,List.length_cons,List.length_nil];omega), ?_⟩
  refine ⟨(x0.value), ?_⟩
  try dsimp only
  refine ⟨by (obtain ⟨e0,e1,e2,e3,e4,e5,e6,e7,e8,e9⟩:=tx_lens h1;omega),by (simp;done),by rfl,by trivial,by (obtain ⟨e0,e1,e2,e3,e4,e5,e6,e7,e8,e9⟩:=tx_lens h1;simp only [joinL,List.append_eq,List.length_append,List.length_cons,List.length_nil];omega),by (simp [FTxOp,FWds,FKw,FOld,joinL, *];done), ?_⟩
  trivial
 intro h5
 refine ⟨by (obtain ⟨e0,e1,e2,e3,e4,e5,e6,e7,e8,e9⟩:=tx_lens h1;simp only [joinL,List.append_eq,List.length_append,List.length_cons,List.length_nil];omega),by (obtain ⟨e0,e1,e2,e3,e4,e5,e6,e7,e8,e9⟩:=tx_lens h1;simp only [joinL,List.append_eq,List.length_append,List.length_cons,List.length_nil];omega), ?_⟩
 refine ⟨(x0.to), ?_⟩
 try dsimp only
 refine ⟨by (obtain ⟨e0,e1,e2,e3,e4,e5,e6,e7,e8,e9⟩:=tx_lens h1;omega),by (simp;done),by rfl,by trivial,by (obtain ⟨e0,e1,e2,e3,e4,e5,e6,e7,e8,e9⟩:=tx_lens h1;simp only [joinL,List.append_eq,List.length_append,List.length_cons,List.length_nil];omega),by (obtain ⟨e0,e1,e2,e3,e4,e5,e6,e7,e8,e9⟩:=tx_lens h1;simp only [joinL,List.append_eq,List.length_append,List.length_cons,List.length_nil];omega), ?_⟩
 refine ⟨(x0.most), ?_⟩
 try dsimp only
 refine ⟨?_, ?_⟩
 ·refine ⟨by exact (most_le h1).1, ?_⟩
  exact (most_le h1).2
 refine ⟨by rfl,by trivial,by (obtain ⟨e0,e1,e2,e3,e4,e5,e6,e7,e8,e9⟩:=tx_lens h1;simp only [joinL,List.append_eq,List.length_append,List.length_cons,List.length_nil];omega),by (have e5:x0.kind=5:=(by have:=(may_kind h1).1;omega);simp [FTxOp,FWds,FKw,FOld,joinL, *];done), ?_⟩
 trivial
end Go.Proofs
