import Derived.Test.YtdpljomfkoojnaaGreatDoorPlLumpChain
import Derived.Test.YtdpljomfkoojnaaGreatDoorChecked
import Derived.Test.YtdpljomfkoojnaaGreatDoorL4zShelf
import Derived.WalkKit
import Derived.BigCall
import Derived.BigGuard
import Derived.Lib.ItoaMem
import Derived.Lib.AppendIntMem
set_option linter.unusedVariables false
set_option maxRecDepth 100000
noncomputable section
namespace Go.Cm.LnLumpChain
open Go.RowKit Go.Proofs
abbrev oR (k:Kd):RK:=(false,[RC.ro k])
abbrev KR:Kd:=Kd.st (Kd.pair Kd.bool (Kd.pair (Kd.sl (Kd.int .u32)) (Kd.sl (Kd.int .u32))))
abbrev KS:Kd:=Kd.st (Kd.pair Kd.bool (Kd.pair (Kd.sl (Kd.int .i64)) (Kd.sl (Kd.int .i64))))
abbrev aI:=Kd.int .i64
abbrev aU:=Kd.int .u32
abbrev lI:=Kd.sl aI
abbrev lU:=Kd.sl aU
abbrev lR:=Kd.sl KR
abbrev lS:=Kd.sl KS
abbrev mR:=Kd.sl lR
abbrev mS:=Kd.sl lS
abbrev lT:=Kd.sl Kd.str
abbrev mT:=Kd.sl lT
abbrev dI:=Sp.dat false aI
abbrev dL:=Sp.dat false lI
abbrev pR:=PK.ro KR
abbrev pI:=PK.ro aI
abbrev rB:List RK:=[(false,[.ro .bool])]
variable {gl:List (Nat×List Value)}
def td:List (Nat×Td):=[(2,⟨Kd.int IntKind.i64,8,false,0,[]⟩),(3,⟨Kd.int IntKind.i64,8,false,0,[]⟩),(4,⟨Kd.bool,1,false,0,[]⟩),(5,⟨Kd.int IntKind.u8,1,false,0,[]⟩),(9,⟨Kd.str,16,false,0,[]⟩),(20,⟨Kd.er,16,false,0,[]⟩),(22,⟨Kd.sl lT,24,false,36,[]⟩),(24,⟨Kd.st mT,24,true,0,[(0,22)]⟩),(26,⟨Kd.sl aI,24,false,2,[]⟩),(29,⟨Kd.st mT,24,true,0,[(0,22)]⟩),(36,⟨Kd.sl Kd.str,24,false,9,[]⟩),(69,⟨Kd.sl lS,24,false,86,[]⟩),(71,⟨Kd.st mS,24,true,0,[(0,69)]⟩),(74,⟨Kd.pt (Kd.st mT),8,false,0,[]⟩),(77,⟨Kd.pt (Kd.st mS),8,false,0,[]⟩),(79,⟨Kd.sl lR,24,false,97,[]⟩),(86,⟨Kd.sl KS,24,false,92,[]⟩),(92,⟨KS,56,true,0,[(0,4),(1,26),(2,26)]⟩),(97,⟨Kd.sl KR,24,false,104,[]⟩),(102,⟨Kd.sl aU,24,false,209,[]⟩),(104,⟨KR,56,true,0,[(0,4),(1,102),(2,102)]⟩),(170,⟨Kd.sl (Kd.int IntKind.u8),24,false,5,[]⟩),(172,⟨Kd.int IntKind.u64,8,false,0,[]⟩),(194,⟨Kd.int IntKind.u64,8,false,0,[]⟩),(209,⟨Kd.int IntKind.u32,4,false,0,[]⟩),(224,⟨Kd.er,16,false,0,[]⟩)]
theorem tdOk:TdsOk ⟨Tryz.prog,td,[],[],[]⟩ Tryz.prog:=tdsCons (tdN Tryz.underlying2) (tdsCons (tdN Tryz.underlying3) (tdsCons (tdN Tryz.underlying4) (tdsCons (tdN Tryz.underlying5) (tdsCons (tdN Tryz.underlying9) (tdsCons (tdN ⟨_,Tryz.underlying20⟩) (tdsCons (tdN Tryz.underlying22) (tdsCons (tdN ⟨_,Tryz.underlying24,by kernel_rfl,by kernel_rfl⟩) (tdsCons (tdN Tryz.underlying26) (tdsCons (tdN ⟨_,Tryz.underlying29,by kernel_rfl,by kernel_rfl⟩) (tdsCons (tdN Tryz.underlying36) (tdsCons (tdN Tryz.underlying69) (tdsCons (tdN ⟨_,Tryz.underlying71,by kernel_rfl,by kernel_rfl⟩) (tdsCons (.of (by kernel_rfl) (.inl rfl) rfl ⟨_,Tryz.underlying74⟩) (tdsCons (.of (by kernel_rfl) (.inl rfl) rfl ⟨_,Tryz.underlying77⟩) (tdsCons (tdN Tryz.underlying79) (tdsCons (tdN Tryz.underlying86) (tdsCons (tdN ⟨_,Tryz.underlying92,by kernel_rfl,by kernel_rfl⟩) (tdsCons (tdN Tryz.underlying97) (tdsCons (tdN Tryz.underlying102) (tdsCons (tdN ⟨_,Tryz.underlying104,by kernel_rfl,by kernel_rfl⟩) (tdsCons (tdN Tryz.underlying170) (tdsCons (tdN Tryz.underlying172) (tdsCons (tdN Tryz.underlying194) (tdsCons (tdN Tryz.underlying209) (tdsCons (tdN ⟨_,Tryz.underlying224⟩) (tdsNil _ _ _ _))))))))))))))))))))))))))
theorem mixed:Tryz.prog.follows .mixedOrders=true:=by kernel_rfl
def InP (gl:List (Nat×List Value)):Prop:=(3,Go.Lib.pow10Tab.map fun z=>Value.int .u64 z)∈gl
def InM (gl:List (Nat×List Value)):Prop:=∃m,(0,[Value.int .i64 m])∈gl
def InS (gl:List (Nat×List Value)):Prop:=∃t p,(1,[Value.iface t p])∈gl
def InR (gl:List (Nat×List Value)):Prop:=∃t p,(2,[Value.iface t p])∈gl
def ct_l_szStringS:Ct:=⟨[PK.bo lT,pI],false,[oR aI],S.l_szStringS,[]⟩
theorem v_l_szStringS:Valid Tryz.prog gl 24 ct_l_szStringS:=VV mixed tdOk [] [(5,[(5,dI),(0,Sp.dat true lT),(1,dI)])] P.l_szStringS cN Tryz.func24 S.l_szStringS_ok
def ct_l_szStringSS:Ct:=⟨[PK.bo mT,pI],false,[oR aI],S.l_szStringSS,[]⟩
theorem v_l_szStringSS:Valid Tryz.prog gl 60 ct_l_szStringSS:=VV mixed tdOk [] [(5,[(5,dI),(0,Sp.dat true mT),(1,dI)])] P.l_szStringSS (ctsCons v_l_szStringS cN) Tryz.func60 S.l_szStringSS_ok
def ct_l_szChain:Ct:=⟨[PK.bo (Kd.st mT),pI],false,[oR aI],S.l_szChain,[]⟩
theorem v_l_szChain:Valid Tryz.prog gl 15 ct_l_szChain:=VV mixed tdOk [] [] P.l_szChain (ctsCons v_l_szStringSS cN) Tryz.func15 S.l_szChain_ok
def ct_l_roomBehind:Ct:=⟨[pI],false,[oR aI],S.l_roomBehind,[]⟩
theorem v_l_roomBehind:Valid Tryz.prog gl 74 ct_l_roomBehind:=VV mixed tdOk [] [] P.l_roomBehind cN Tryz.func74 S.l_roomBehind_ok
def ct_l_toInt64So:Ct:=⟨[PK.bo lI,PK.ro Kd.bool],false,[(false,[RC.ov aI])],S.l_toInt64So,[]⟩
theorem v_l_toInt64So:Valid Tryz.prog gl 51 ct_l_toInt64So:=VV mixed tdOk [] [(9,[(7,dI),(5,Sp.own (160) true aI),(0,Sp.dat true lI)]),(5,[(6,dI),(0,Sp.dat true lI),(5,Sp.own (160) true aI)])] P.l_toInt64So (ctsCons v_l_roomBehind cN) Tryz.func51 S.l_toInt64So_ok
def ct_l_eqInt64S:Ct:=⟨[PK.bo lI,PK.bo lI],false,rB,S.l_eqInt64S,[]⟩
theorem v_l_eqInt64S:Valid Tryz.prog gl 19 ct_l_eqInt64S:=VV mixed tdOk [] [(4,[(5,dI),(0,Sp.dat true lI),(1,Sp.dat true lI)])] P.l_eqInt64S cN Tryz.func19 S.l_eqInt64S_ok
def ct_l_intactInt64S:Ct:=⟨[PK.bo (Kd.sv aI),PK.bo (Kd.sv aI)],false,rB,S.l_intactInt64S,[]⟩
theorem v_l_intactInt64S:Valid Tryz.prog gl 53 ct_l_intactInt64S:=VV mixed tdOk [] [] P.l_intactInt64S (ctsCons v_l_roomBehind (ctsCons v_l_eqInt64S cN)) Tryz.func53 S.l_intactInt64S_ok
def ct_l_markInt64S:Ct:=⟨[PK.mu aI,pI],false,[oR aI],S.l_markInt64S,[]⟩
theorem v_l_markInt64S:Valid Tryz.prog gl 22 ct_l_markInt64S:=VV mixed tdOk [] [(2,[(5,dI),(0,Sp.own (0) false aI),(1,dI)])] P.l_markInt64S cN Tryz.func22 S.l_markInt64S_ok
def ct_l_eqStringS:Ct:=⟨[PK.bo lT,PK.bo lT],false,rB,S.l_eqStringS,[]⟩
theorem v_l_eqStringS:Valid Tryz.prog gl 28 ct_l_eqStringS:=VV mixed tdOk [] [(4,[(5,dI),(0,Sp.dat true lT),(1,Sp.dat true lT)])] P.l_eqStringS cN Tryz.func28 S.l_eqStringS_ok
def ct_l_eqStringSS:Ct:=⟨[PK.bo mT,PK.bo mT],false,rB,S.l_eqStringSS,[]⟩
theorem v_l_eqStringSS:Valid Tryz.prog gl 104 ct_l_eqStringSS:=VV mixed tdOk [] [(4,[(5,dI),(0,Sp.dat true mT),(1,Sp.dat true mT)])] P.l_eqStringSS (ctsCons v_l_eqStringS cN) Tryz.func104 S.l_eqStringSS_ok
def ct_l_eqChain:Ct:=⟨[PK.bo (Kd.st mT),PK.bo (Kd.st mT)],false,rB,S.l_eqChain,[]⟩
theorem v_l_eqChain:Valid Tryz.prog gl 42 ct_l_eqChain:=VV mixed tdOk [] [] P.l_eqChain (ctsCons v_l_eqStringSS cN) Tryz.func42 S.l_eqChain_ok
def ct_l_intactStringS:Ct:=⟨[PK.bo (Kd.sv Kd.str),PK.bo (Kd.sv Kd.str)],false,rB,S.l_intactStringS,[]⟩
theorem v_l_intactStringS:Valid Tryz.prog gl 29 ct_l_intactStringS:=VV mixed tdOk [] [] P.l_intactStringS (ctsCons v_l_roomBehind (ctsCons v_l_eqStringS cN)) Tryz.func29 S.l_intactStringS_ok
def ct_l_intactStringSS:Ct:=⟨[PK.bo (Kd.sv (Kd.sv Kd.str)),PK.bo (Kd.sv (Kd.sv Kd.str))],false,rB,S.l_intactStringSS,[]⟩
theorem v_l_intactStringSS:Valid Tryz.prog gl 66 ct_l_intactStringSS:=VV mixed tdOk [] [(5,[(6,dI),(1,Sp.dat true (Kd.sv (Kd.sv Kd.str))),(0,Sp.dat true (Kd.sv (Kd.sv Kd.str))),(5,dI)])] P.l_intactStringSS (ctsCons v_l_roomBehind (ctsCons v_l_intactStringS (ctsCons v_l_eqStringSS cN))) Tryz.func66 S.l_intactStringSS_ok
def ct_l_intactChain:Ct:=⟨[PK.bo (Kd.st (Kd.sv (Kd.sv Kd.str))),PK.bo (Kd.st (Kd.sv (Kd.sv Kd.str)))],false,rB,S.l_intactChain,[]⟩
theorem v_l_intactChain:Valid Tryz.prog gl 20 ct_l_intactChain:=VV mixed tdOk [] [] P.l_intactChain (ctsCons v_l_intactStringSS cN) Tryz.func20 S.l_intactChain_ok
def ct_l_markText:Ct:=⟨[pI],false,[oR Kd.str],S.l_markText,[]⟩
theorem v_l_markText:Valid Tryz.prog gl 82 ct_l_markText:=VV mixed tdOk [] [(4,[(0,dI),(3,Sp.dat false Kd.str)])] P.l_markText cN Tryz.func82 S.l_markText_ok
def ct_l_markStringS:Ct:=⟨[PK.mu Kd.str,pI],false,[oR aI],S.l_markStringS,[]⟩
theorem v_l_markStringS:Valid Tryz.prog gl 30 ct_l_markStringS:=VV mixed tdOk [] [(2,[(5,dI),(0,Sp.own (0) false Kd.str),(1,dI)])] P.l_markStringS (ctsCons v_l_markText cN) Tryz.func30 S.l_markStringS_ok
def ct_l_markStringSS:Ct:=⟨[PK.mr Kd.str,pI],false,[oR aI],S.l_markStringSS,[]⟩
theorem v_l_markStringSS:Valid Tryz.prog gl 67 ct_l_markStringSS:=VV mixed tdOk [] [(2,[(5,dI),(0,Sp.rows (0) false Kd.str),(1,dI)])] P.l_markStringSS (ctsCons v_l_markStringS cN) Tryz.func67 S.l_markStringSS_ok
def ct_l_markChain:Ct:=⟨[PK.mr Kd.str,pI],false,[oR aI],S.l_markChain,[1,0]⟩
theorem v_l_markChain:Valid Tryz.prog gl 21 ct_l_markChain:=VV mixed tdOk [] [] P.l_markChain (ctsCons v_l_markStringSS cN) Tryz.func21 S.l_markChain_ok
def ct_l_toStringSo:Ct:=⟨[PK.bo lT,PK.ro Kd.bool],false,[(false,[RC.ov Kd.str])],S.l_toStringSo,[]⟩
theorem v_l_toStringSo:Valid Tryz.prog gl 26 ct_l_toStringSo:=VV mixed tdOk [] [(9,[(7,dI),(5,Sp.own (160) true Kd.str),(0,Sp.dat true lT)]),(5,[(6,dI),(0,Sp.dat true lT),(5,Sp.own (160) true Kd.str)])] P.l_toStringSo (ctsCons v_l_roomBehind cN) Tryz.func26 S.l_toStringSo_ok
def ct_l_toStringSSo:Ct:=⟨[PK.bo mT,PK.ro Kd.bool],false,[(false,[RC.rows Kd.str])],S.l_toStringSSo,[]⟩
theorem v_l_toStringSSo:Valid Tryz.prog gl 63 ct_l_toStringSSo:=VV mixed tdOk [1000020] [(9,[(7,dI),(5,Sp.rows (160) true Kd.str),(0,Sp.dat true mT)]),(5,[(6,dI),(0,Sp.dat true mT),(5,Sp.rows (160) true Kd.str),(1,Sp.dat false Kd.bool)])] P.l_toStringSSo (ctsCons v_l_roomBehind (ctsCons v_l_toStringSo cN)) Tryz.func63 S.l_toStringSSo_ok
def ct_l_toChaino:Ct:=⟨[PK.bo (Kd.st mT),PK.ro Kd.bool],false,[(true,[RC.rows Kd.str])],S.l_toChaino,[]⟩
theorem v_l_toChaino:Valid Tryz.prog gl 17 ct_l_toChaino:=VV mixed tdOk [] [] P.l_toChaino (ctsCons v_l_toStringSSo cN) Tryz.func17 S.l_toChaino_ok
def ct_l_heldStringS:Ct:=⟨[PK.bo lT,pI],false,[oR aI],S.l_heldStringS,[]⟩
theorem v_l_heldStringS:Valid Tryz.prog gl 31 ct_l_heldStringS:=VV mixed tdOk [] [(2,[(5,dI),(0,Sp.dat true lT),(1,dI)])] P.l_heldStringS (ctsCons v_l_markText cN) Tryz.func31 S.l_heldStringS_ok
def ct_l_heldStringSS:Ct:=⟨[PK.bo mT,pI],false,[oR aI],S.l_heldStringSS,[]⟩
theorem v_l_heldStringSS:Valid Tryz.prog gl 105 ct_l_heldStringSS:=VV mixed tdOk [] [(2,[(5,dI),(0,Sp.dat true mT),(1,dI)])] P.l_heldStringSS (ctsCons v_l_heldStringS cN) Tryz.func105 S.l_heldStringSS_ok
def ct_l_heldChain:Ct:=⟨[PK.bo (Kd.st mT),pI],false,[oR aI],S.l_heldChain,[]⟩
theorem v_l_heldChain:Valid Tryz.prog gl 45 ct_l_heldChain:=VV mixed tdOk [] [] P.l_heldChain (ctsCons v_l_heldStringSS cN) Tryz.func45 S.l_heldChain_ok
def ct_s_l01Nat:Ct:=⟨[pI],false,[oR lI],S.s_l01Nat,[]⟩
theorem v_s_l01Nat:Valid Tryz.prog gl 194 ct_s_l01Nat:=VV mixed tdOk [] [(2,[(0,dI),(3,Sp.own (32) true aI)])] P.s_l01Nat cN Tryz.func194 S.s_l01Nat_ok
def ct_s_l01Int:Ct:=⟨[pI],false,[(true,[RC.ro KS])],S.s_l01Int,[]⟩
theorem v_s_l01Int:Valid Tryz.prog gl 168 ct_s_l01Int:=VV mixed tdOk [] [] P.s_l01Int (ctsCons v_s_l01Nat cN) Tryz.func168 S.s_l01Int_ok
def ct_s_l01None:Ct:=⟨[],false,[(true,[RC.ro KS])],S.s_l01None,[]⟩
theorem v_s_l01None:Valid Tryz.prog gl 123 ct_s_l01None:=VV mixed tdOk [] [] P.s_l01None (ctsCons v_s_l01Int cN) Tryz.func123 S.s_l01None_ok
def ct_s_l01Cmp:Ct:=⟨[PK.bo lI,PK.bo lI],false,[oR aI],S.s_l01Cmp,[]⟩
theorem v_s_l01Cmp:Valid Tryz.prog gl 147 ct_s_l01Cmp:=VV mixed tdOk [] [(6,[(5,dI),(0,Sp.dat true lI),(1,Sp.dat true lI)])] P.s_l01Cmp cN Tryz.func147 S.s_l01Cmp_ok
def ct_s_l01Trim:Ct:=⟨[PK.ro lI],false,[oR lI],S.s_l01Trim,[]⟩
theorem v_s_l01Trim:Valid Tryz.prog gl 191 ct_s_l01Trim:=VV mixed tdOk [] [(1,[(0,dL)])] P.s_l01Trim cN Tryz.func191 S.s_l01Trim_ok
def ct_s_l01NatMul:Ct:=⟨[PK.bo lI,PK.bo lI],false,[oR lI],S.s_l01NatMul,[]⟩
theorem v_s_l01NatMul:Valid Tryz.prog gl 148 ct_s_l01NatMul:=VV mixed tdOk [] [(7,[(23,dI),(22,dI),(5,Sp.own (120) true aI),(6,dI),(0,Sp.dat true lI),(1,Sp.dat true lI),(7,dI),(18,dI),(17,dI)]),(3,[(18,dI),(17,dI),(1,Sp.dat true lI),(5,Sp.own (120) true aI),(0,Sp.dat true lI)])] P.s_l01NatMul (ctsCons v_s_l01Trim cN) Tryz.func148 S.s_l01NatMul_ok
def ct_s_l01Equal:Ct:=⟨[PK.bo KS,PK.bo KS],false,rB,S.s_l01Equal,[]⟩
theorem v_s_l01Equal:Valid Tryz.prog gl 90 ct_s_l01Equal:=VV mixed tdOk [] [] P.s_l01Equal (ctsCons v_s_l01Cmp (ctsCons v_s_l01NatMul cN)) Tryz.func90 S.s_l01Equal_ok
def ct_s_l01Digit:Ct:=⟨[PK.bo lI,pI],false,[oR aI],S.s_l01Digit,[]⟩
theorem v_s_l01Digit:Valid Tryz.prog gl 193 ct_s_l01Digit:=VV mixed tdOk [] [] P.s_l01Digit cN Tryz.func193 S.s_l01Digit_ok
def ct_s_l01NatAdd:Ct:=⟨[PK.bo lI,PK.bo lI],false,[oR lI],S.s_l01NatAdd,[]⟩
theorem v_s_l01NatAdd:Valid Tryz.prog gl 156 ct_s_l01NatAdd:=VV mixed tdOk [] [(4,[(7,dI),(0,Sp.dat true lI),(1,Sp.dat true lI),(6,dI),(5,Sp.own (72) true aI)])] P.s_l01NatAdd (ctsCons v_s_l01Digit cN) Tryz.func156 S.s_l01NatAdd_ok
def ct_s_l01NatLess:Ct:=⟨[PK.bo lI,PK.bo lI],false,[oR lI],S.s_l01NatLess,[]⟩
theorem v_s_l01NatLess:Valid Tryz.prog gl 157 ct_s_l01NatLess:=VV mixed tdOk [] [(4,[(12,dI),(11,dI),(0,Sp.dat true lI),(1,Sp.dat true lI),(6,dI),(5,Sp.own (72) true aI)])] P.s_l01NatLess (ctsCons v_s_l01Trim (ctsCons v_s_l01Digit cN)) Tryz.func157 S.s_l01NatLess_ok
def ct_s_l01Small:Ct:=⟨[PK.bo lI],true,[oR aI,oR Kd.bool],S.s_l01Small,[]⟩
theorem v_s_l01Small:Valid Tryz.prog gl 209 ct_s_l01Small:=VV mixed tdOk [] [] P.s_l01Small (ctsCons v_s_l01Digit cN) Tryz.func209 S.s_l01Small_ok
def ct_s_l01ShortMul:Ct:=⟨[PK.bo lI,pI],false,[(false,[RC.own aI])],S.s_l01ShortMul,[]⟩
theorem v_s_l01ShortMul:Valid Tryz.prog gl 211 ct_s_l01ShortMul:=VV mixed tdOk [] [(4,[(16,dI),(15,dI),(14,Sp.dat true lI),(1,dI),(6,dI),(5,Sp.own (104) true aI)])] P.s_l01ShortMul cN Tryz.func211 S.s_l01ShortMul_ok
def ct_s_l01ShortDiv:Ct:=⟨[PK.bo lI,pI],true,[oR lI,oR aI],S.s_l01ShortDiv,[]⟩
theorem v_s_l01ShortDiv:Valid Tryz.prog gl 210 ct_s_l01ShortDiv:=VV mixed tdOk [] [(4,[(8,dI),(7,dI),(0,Sp.dat true lI),(6,Sp.own (96) true aI),(1,dI)])] P.s_l01ShortDiv (ctsCons v_s_l01Trim cN) Tryz.func210 S.s_l01ShortDiv_ok
def ct_s_l01TakeOff:Ct:=⟨[PK.mu aI,PK.bo lI,pI,pI],false,rB,S.s_l01TakeOff,[]⟩
theorem v_s_l01TakeOff:Valid Tryz.prog gl 212 ct_s_l01TakeOff:=VV mixed tdOk [] [(3,[(15,dI),(14,dI),(13,Sp.dat true lI),(0,Sp.own (0) false aI),(2,dI),(3,dI),(9,dI),(1,Sp.dat true lI)])] P.s_l01TakeOff cN Tryz.func212 S.s_l01TakeOff_ok
def ct_s_l01PutBack:Ct:=⟨[PK.mu aI,PK.bo lI,pI],true,[],S.s_l01PutBack,[]⟩
theorem v_s_l01PutBack:Valid Tryz.prog gl 213 ct_s_l01PutBack:=VV mixed tdOk [] [(2,[(12,dI),(11,dI),(10,Sp.dat true lI),(0,Sp.own (0) false aI),(2,dI),(6,dI),(1,Sp.dat true lI)])] P.s_l01PutBack cN Tryz.func213 S.s_l01PutBack_ok
def ct_s_l01NatDiv:Ct:=⟨[PK.bo lI,PK.bo lI],true,[oR lI,oR lI],S.s_l01NatDiv,[]⟩
theorem v_s_l01NatDiv:Valid Tryz.prog gl 192 ct_s_l01NatDiv:=VV mixed tdOk [] [(21,[(19,dI),(14,dL),(15,dI),(20,dI),(13,Sp.own (624) true aI),(17,dI),(16,Sp.own (744) true aI),(12,dI)]),(17,[(17,dI),(13,Sp.own (624) true aI),(15,dI),(14,dL),(16,Sp.own (744) true aI),(12,dI)])] P.s_l01NatDiv (ctsCons v_s_l01Trim (ctsCons v_s_l01Nat (ctsCons v_s_l01Cmp (ctsCons v_s_l01Small (ctsCons v_s_l01ShortMul (ctsCons v_s_l01ShortDiv (ctsCons v_s_l01TakeOff (ctsCons v_s_l01PutBack cN)))))))) Tryz.func192 S.s_l01NatDiv_ok
def ct_s_l01Gcd:Ct:=⟨[PK.ro lI,PK.ro lI],false,[oR lI],S.s_l01Gcd,[]⟩
theorem v_s_l01Gcd:Valid Tryz.prog gl 164 ct_s_l01Gcd:=VV mixed tdOk [] [(1,[(1,dL),(0,dL)])] P.s_l01Gcd (ctsCons v_s_l01NatDiv cN) Tryz.func164 S.s_l01Gcd_ok
def ct_s_l01Make:Ct:=⟨[PK.ro Kd.bool,PK.ro lI,PK.ro lI],false,[(true,[RC.ro KS])],S.s_l01Make,[]⟩
theorem v_s_l01Make:Valid Tryz.prog gl 155 ct_s_l01Make:=VV mixed tdOk [] [] P.s_l01Make (ctsCons v_s_l01Cmp (ctsCons v_s_l01NatDiv (ctsCons v_s_l01Gcd cN))) Tryz.func155 S.s_l01Make_ok
def ct_s_l01Sum:Ct:=⟨[PK.bo KS,PK.bo KS],false,[(true,[RC.ro KS])],S.s_l01Sum,[]⟩
theorem v_s_l01Sum:Valid Tryz.prog gl 97 ct_s_l01Sum:=VV mixed tdOk [] [] P.s_l01Sum (ctsCons v_s_l01Cmp (ctsCons v_s_l01NatMul (ctsCons v_s_l01NatAdd (ctsCons v_s_l01NatLess (ctsCons v_s_l01Make cN))))) Tryz.func97 S.s_l01Sum_ok
def ct_s_l01Cut:Ct:=⟨[PK.ro Kd.str,PK.ro (Kd.int IntKind.u8)],false,[(false,[RC.own Kd.str])],S.s_l01Cut,[]⟩
theorem v_s_l01Cut:Valid Tryz.prog gl 161 ct_s_l01Cut:=VV mixed tdOk [] [(4,[(7,dI),(0,Sp.dat false Kd.str),(1,Sp.dat false (Kd.int IntKind.u8)),(5,Sp.own (64) true Kd.str),(6,dI)])] P.s_l01Cut cN Tryz.func161 S.s_l01Cut_ok
def ct_s_l01NatRead:Ct:=⟨[PK.ro Kd.str],false,[oR lI],S.s_l01NatRead,[]⟩
theorem v_s_l01NatRead:Valid Tryz.prog gl 163 ct_s_l01NatRead:=VV mixed tdOk [] [(10,[(7,dI),(4,dI),(6,dI),(0,Sp.dat false Kd.str),(3,Sp.own (64) true aI)]),(3,[(4,dI),(0,Sp.dat false Kd.str),(3,Sp.own (64) true aI)])] P.s_l01NatRead (ctsCons v_s_l01Trim cN) Tryz.func163 S.s_l01NatRead_ok
def ct_s_l01Digits:Ct:=⟨[PK.ro Kd.str],false,rB,S.s_l01Digits,[]⟩
theorem v_s_l01Digits:Valid Tryz.prog gl 162 ct_s_l01Digits:=VV mixed tdOk [] [(2,[(3,dI),(0,Sp.dat false Kd.str)])] P.s_l01Digits cN Tryz.func162 S.s_l01Digits_ok
def ct_s_l01Parse:Ct:=⟨[PK.ro Kd.str],true,[(true,[RC.ro KS]),oR Kd.bool],S.s_l01Parse,[]⟩
theorem v_s_l01Parse:Valid Tryz.prog gl 110 ct_s_l01Parse:=VV mixed tdOk [] [] P.s_l01Parse (ctsCons v_s_l01Cut (ctsCons v_s_l01Cmp (ctsCons v_s_l01Gcd (ctsCons v_s_l01NatRead (ctsCons v_s_l01Digits cN))))) Tryz.func110 S.s_l01Parse_ok
def ct_s_l01List:Ct:=⟨[PK.bo lT],true,[oR lS,oR Kd.bool],S.s_l01List,[]⟩
theorem v_s_l01List:Valid Tryz.prog gl 68 ct_s_l01List:=VV mixed tdOk [] [(5,[(14,dI),(13,dI),(0,Sp.dat true lT),(4,Sp.own (88) true KS)])] P.s_l01List (ctsCons v_s_l01Parse cN) Tryz.func68 S.s_l01List_ok
def ct_s_l01One:Ct:=⟨[],false,[(true,[RC.ro KS])],S.s_l01One,[]⟩
theorem v_s_l01One:Valid Tryz.prog gl 114 ct_s_l01One:=VV mixed tdOk [] [] P.s_l01One (ctsCons v_s_l01Int cN) Tryz.func114 S.s_l01One_ok
def ct_s_l01Total:Ct:=⟨[PK.bo lS],false,[(true,[RC.ro KS])],S.s_l01Total,[]⟩
theorem v_s_l01Total:Valid Tryz.prog gl 71 ct_s_l01Total:=VV mixed tdOk [] [(3,[(8,dI),(7,dI),(3,Sp.var (24) KS),(0,Sp.dat true lS),(2,Sp.var (16) KS)])] P.s_l01Total (ctsCons v_s_l01None (ctsCons v_s_l01Sum cN)) Tryz.func71 S.s_l01Total_ok
def ct_s_l01Positive:Ct:=⟨[PK.bo lS],false,rB,S.s_l01Positive,[]⟩
theorem v_s_l01Positive:Valid Tryz.prog gl 69 ct_s_l01Positive:=VV mixed tdOk [] [(2,[(6,dI),(5,dI),(0,Sp.dat true lS)])] P.s_l01Positive cN Tryz.func69 S.s_l01Positive_ok
def ct_s_l01Weights:Ct:=⟨[PK.bo lS],false,rB,S.s_l01Weights,[]⟩
theorem v_s_l01Weights:Valid Tryz.prog gl 133 ct_s_l01Weights:=VV mixed tdOk [] [] P.s_l01Weights (ctsCons v_s_l01One (ctsCons v_s_l01Equal (ctsCons v_s_l01Total (ctsCons v_s_l01Positive cN)))) Tryz.func133 S.s_l01Weights_ok
def ct_s_l03Parse:Ct:=⟨[PK.bo (Kd.pt (Kd.st mT))],true,[(true,[RC.ro (Kd.st mS)]),oR Kd.bool],S.s_l03Parse,[]⟩
theorem v_s_l03Parse:Valid Tryz.prog gl 61 ct_s_l03Parse:=VV mixed tdOk [] [(6,[(27,dI),(26,dI),(0,Sp.dat true (Kd.pt (Kd.st mT))),(4,dI),(2,Sp.var (16) (Kd.st mS)),(5,Sp.vow (40) (512) lS)])] P.s_l03Parse (ctsCons v_s_l01List (ctsCons v_s_l01Weights cN)) Tryz.func61 S.s_l03Parse_ok
def ct_s_l01Dec:Ct:=⟨[pI],false,[oR Kd.str],S.s_l01Dec,[]⟩
theorem v_s_l01Dec:Valid Tryz.prog gl 217 ct_s_l01Dec:=VV mixed tdOk [] [(3,[(3,Sp.dat false (Kd.sl (Kd.int IntKind.u8))),(4,dI),(0,dI)])] P.s_l01Dec cN Tryz.func217 S.s_l01Dec_ok
def ct_s_l01NatText:Ct:=⟨[PK.bo lI],false,[oR Kd.str],S.s_l01NatText,[]⟩
theorem v_s_l01NatText:Valid Tryz.prog gl 199 ct_s_l01NatText:=VV mixed tdOk [] [(5,[(4,dI),(0,Sp.dat true lI),(3,Sp.dat false Kd.str)])] P.s_l01NatText (ctsCons v_s_l01Dec cN) Tryz.func199 S.s_l01NatText_ok
def ct_s_l01Fits:Ct:=⟨[PK.bo KS],false,rB,S.s_l01Fits,[]⟩
theorem v_s_l01Fits:Valid Tryz.prog gl 179 ct_s_l01Fits:=VV mixed tdOk [] [] P.s_l01Fits (ctsCons v_s_l01NatText cN) Tryz.func179 S.s_l01Fits_ok
def ct_s_l01Show:Ct:=⟨[PK.bo KS],false,[oR Kd.str],S.s_l01Show,[]⟩
theorem v_s_l01Show:Valid Tryz.prog gl 180 ct_s_l01Show:=VV mixed tdOk [] [] P.s_l01Show (ctsCons v_s_l01Cmp (ctsCons v_s_l01NatText cN)) Tryz.func180 S.s_l01Show_ok
def ct_s_l01Give:Ct:=⟨[PK.bo KS],true,[oR Kd.str,oR Kd.bool],S.s_l01Give,[]⟩
theorem v_s_l01Give:Valid Tryz.prog gl 128 ct_s_l01Give:=VV mixed tdOk [] [] P.s_l01Give (ctsCons v_s_l01Fits (ctsCons v_s_l01Show cN)) Tryz.func128 S.s_l01Give_ok
def ct_s_l01GiveAll:Ct:=⟨[PK.bo lS],true,[(false,[RC.own Kd.str]),oR Kd.bool],S.s_l01GiveAll,[]⟩
theorem v_s_l01GiveAll:Valid Tryz.prog gl 72 ct_s_l01GiveAll:=VV mixed tdOk [] [(3,[(11,dI),(10,dI),(0,Sp.dat true lS),(4,Sp.own (64) true Kd.str)])] P.s_l01GiveAll (ctsCons v_s_l01Give cN) Tryz.func72 S.s_l01GiveAll_ok
def ct_s_l03Give:Ct:=⟨[PK.bo (Kd.pt (Kd.st mS))],true,[(true,[RC.rows Kd.str]),oR Kd.bool],S.s_l03Give,[]⟩
theorem v_s_l03Give:Valid Tryz.prog gl 115 ct_s_l03Give:=VV mixed tdOk [1000034] [(3,[(14,dI),(13,dI),(0,Sp.dat true (Kd.pt (Kd.st mS))),(2,Sp.var (16) (Kd.st mT)),(4,Sp.vrow (32) (280) Kd.str)])] P.s_l03Give (ctsCons v_s_l01GiveAll cN) Tryz.func115 S.s_l03Give_ok
def ct_s_l00In:Ct:=⟨[pI,pI,pI],false,rB,S.s_l00In,[]⟩
theorem v_s_l00In:Valid Tryz.prog gl 142 ct_s_l00In:=VV mixed tdOk [] [] P.s_l00In cN Tryz.func142 S.s_l00In_ok
def ct_s_l00Max:Ct:=⟨[pI,pI],false,[oR aI],S.s_l00Max,[]⟩
theorem v_s_l00Max:Valid Tryz.prog gl 144 ct_s_l00Max:=VV mixed tdOk [] [] P.s_l00Max cN Tryz.func144 S.s_l00Max_ok
def ct_s_l00Has:Ct:=⟨[PK.bo lI,pI],false,rB,S.s_l00Has,[]⟩
theorem v_s_l00Has:Valid Tryz.prog gl 135 ct_s_l00Has:=VV mixed tdOk [] [(2,[(5,dI),(0,Sp.dat true lI),(1,dI)])] P.s_l00Has cN Tryz.func135 S.s_l00Has_ok
def ct_s_l03Parts:Ct:=⟨[PK.bo (Kd.pt (Kd.st mS)),PK.bo lI],false,[oR aI],S.s_l03Parts,[]⟩
theorem v_s_l03Parts:Valid Tryz.prog gl 122 ct_s_l03Parts:=VV mixed tdOk [] [(12,[(7,dI),(5,dI),(1,Sp.dat true lI)]),(5,[(18,dI),(17,dI),(1,Sp.dat true lI),(5,dI)])] P.s_l03Parts (ctsCons v_s_l00In (ctsCons v_s_l00Max (ctsCons v_s_l00Has cN))) Tryz.func122 S.s_l03Parts_ok
def ct_s_LumpChain:Ct:=⟨[PK.bo (Kd.st mT),PK.bo lI],true,[(true,[RC.rows Kd.str]),oR Kd.bool],S.s_LumpChain,[]⟩
theorem v_s_LumpChain:Valid Tryz.prog gl 50 ct_s_LumpChain:=VV mixed tdOk [] [(25,[(82,dI),(81,dI),(15,Sp.dat false lS),(11,Sp.own (280) true KS),(4,Sp.var (32) mT),(9,Sp.vow (72) (216) lS),(1,Sp.dat true lI),(10,dI),(32,dI),(31,dI),(8,dI),(6,Sp.var (48) mS)]),(15,[(45,dI),(44,dI),(1,Sp.dat true lI),(12,dI),(13,Sp.var (104) KS),(6,Sp.var (48) mS),(10,dI),(11,Sp.own (280) true KS),(8,dI),(4,Sp.var (32) mT),(9,Sp.vow (72) (216) lS),(32,dI),(31,dI)]),(11,[(12,dI),(8,dI),(6,Sp.var (48) mS),(1,Sp.dat true lI),(10,dI),(11,Sp.own (280) true KS),(4,Sp.var (32) mT),(9,Sp.vow (72) (216) lS),(32,dI),(31,dI)]),(7,[(32,dI),(31,dI),(8,dI),(6,Sp.var (48) mS),(1,Sp.dat true lI),(4,Sp.var (32) (Kd.st mT)),(9,Sp.vow (72) (216) lS)])] P.s_LumpChain (ctsCons v_s_l01None (ctsCons v_s_l01Equal (ctsCons v_s_l01Sum (ctsCons v_s_l03Parse (ctsCons v_s_l03Give (ctsCons v_s_l03Parts cN)))))) Tryz.func50 S.s_LumpChain_ok
def ct_math_bits_Mul64:Ct:=⟨[PK.ro (Kd.int IntKind.u64),PK.ro (Kd.int IntKind.u64)],true,[oR (Kd.int IntKind.u64),oR (Kd.int IntKind.u64)],S.math_bits_Mul64,[]⟩
theorem v_math_bits_Mul64:Valid Tryz.prog gl 190 ct_math_bits_Mul64:=VV mixed tdOk [] [] P.math_bits_Mul64 cN Tryz.func190 S.math_bits_Mul64_ok
def ct_math_bits_Mul:Ct:=⟨[PK.ro (Kd.int IntKind.u64),PK.ro (Kd.int IntKind.u64)],true,[oR (Kd.int IntKind.u64),oR (Kd.int IntKind.u64)],S.math_bits_Mul,[]⟩
theorem v_math_bits_Mul:Valid Tryz.prog gl 146 ct_math_bits_Mul:=VV mixed tdOk [] [] P.math_bits_Mul (ctsCons v_math_bits_Mul64 cN) Tryz.func146 S.math_bits_Mul_ok
def ct_slices_Repeat__i_rat_i_rat:Ct:=⟨[PK.ro lR,pI],false,[(false,[RC.own KR])],S.slices_Repeat__i_rat_i_rat,[]⟩
theorem v_slices_Repeat__i_rat_i_rat:Valid Tryz.prog gl 125 ct_slices_Repeat__i_rat_i_rat:=VV mixed tdOk [] [(8,[(8,dI),(7,Sp.own (240) true KR)])] PP.slices_Repeat__i_rat_i_rat (ctsCons v_math_bits_Mul cN) Tryz.func125 (fun x r h=>(S.slices_Repeat__i_rat_i_rat_ok x r h).imp fun k hk=>(PP.slices_Repeat__i_rat_i_rat_eq k x).trans hk)
def ct_i_magnitude:Ct:=⟨[pI],false,[oR (Kd.int IntKind.u64)],S.i_magnitude,[]⟩
theorem v_i_magnitude:Valid Tryz.prog gl 175 ct_i_magnitude:=VV mixed tdOk [] [] P.i_magnitude cN Tryz.func175 S.i_magnitude_ok
def ct_i_nat_trim:Ct:=⟨[PK.ro lU],false,[oR lU],S.i_nat_trim,[]⟩
theorem v_i_nat_trim:Valid Tryz.prog gl 196 ct_i_nat_trim:=VV mixed tdOk [] [(1,[(0,Sp.dat false lU)])] P.i_nat_trim cN Tryz.func196 S.i_nat_trim_ok
def ct_i_natOf:Ct:=⟨[PK.ro (Kd.int IntKind.u64)],false,[oR lU],S.i_natOf,[]⟩
theorem v_i_natOf:Valid Tryz.prog gl 174 ct_i_natOf:=VV mixed tdOk [] [] P.i_natOf (ctsCons v_i_nat_trim cN) Tryz.func174 S.i_natOf_ok
def ct_i_whole:Ct:=⟨[pI],false,[(true,[RC.ro KR])],S.i_whole,[]⟩
theorem v_i_whole:Valid Tryz.prog gl 120 ct_i_whole:=VV mixed tdOk [] [] P.i_whole (ctsCons v_i_magnitude (ctsCons v_i_natOf cN)) Tryz.func120 S.i_whole_ok
def ct_i_nat_cmp:Ct:=⟨[PK.bo lU,PK.bo lU],false,[oR aI],S.i_nat_cmp,[]⟩
theorem v_i_nat_cmp:Valid Tryz.prog gl 171 ct_i_nat_cmp:=VV mixed tdOk [] [(6,[(5,dI),(0,Sp.dat true lU),(1,Sp.dat true lU)])] P.i_nat_cmp cN Tryz.func171 S.i_nat_cmp_ok
def ct_i_nat_sub:Ct:=⟨[PK.bo lU,PK.bo lU],false,[oR lU],S.i_nat_sub,[]⟩
theorem v_i_nat_sub:Valid Tryz.prog gl 173 ct_i_nat_sub:=VV mixed tdOk [] [(3,[(14,dI),(13,dI),(0,Sp.dat true lU),(6,dI),(1,Sp.dat true lU),(5,Sp.own (88) true aU)])] P.i_nat_sub (ctsCons v_i_nat_trim cN) Tryz.func173 S.i_nat_sub_ok
def ct_i_nat_add:Ct:=⟨[PK.bo lU,PK.bo lU],false,[oR lU],S.i_nat_add,[]⟩
theorem v_i_nat_add:Valid Tryz.prog gl 172 ct_i_nat_add:=VV mixed tdOk [] [(5,[(21,dI),(20,dI),(6,Sp.dat false (Kd.int IntKind.u64)),(0,Sp.dat true lU),(1,Sp.dat true lU),(5,Sp.own (144) true aU)])] P.i_nat_add (ctsCons v_i_nat_trim cN) Tryz.func172 S.i_nat_add_ok
def ct_i_nat_mul:Ct:=⟨[PK.bo lU,PK.bo lU],false,[oR lU],S.i_nat_mul,[]⟩
theorem v_i_nat_mul:Valid Tryz.prog gl 170 ct_i_nat_mul:=VV mixed tdOk [] [(7,[(26,dI),(25,dI),(24,Sp.dat true lU),(8,Sp.dat false (Kd.int IntKind.u64)),(7,Sp.dat false aU),(5,Sp.own (128) true aU),(6,dI),(1,Sp.dat true lU),(19,dI),(18,dI),(17,Sp.dat true lU)]),(3,[(19,dI),(18,dI),(17,Sp.dat true lU),(1,Sp.dat true lU),(5,Sp.own (128) true aU)])] P.i_nat_mul (ctsCons v_i_nat_trim cN) Tryz.func170 S.i_nat_mul_ok
def ct_math_bits_LeadingZeros32:Ct:=⟨[PK.ro aU],false,[oR aI],S.math_bits_LeadingZeros32,[]⟩
theorem v_math_bits_LeadingZeros32:Valid Tryz.prog gl 214 ct_math_bits_LeadingZeros32:=by
 refine told_flat (enters_of Tryz.func214 (by kernel_rfl) (by kernel_rfl)) (fun _ _ _ _ _ _=>trivial) (fun w M0 W0 us x γ hl hW ha r hr=> ?_);obtain⟨n,q⟩:=x;obtain⟨u1,_,rfl,⟨c1,h1,h1'⟩,rfl⟩:=ha;cases h1';subst h1;unfold S.math_bits_LeadingZeros32 at hr;split at hr
 case isFalse=>cases hr
 rename_i hc;cases hr;refine(Tryz.bits_LeadingZeros32 n w hc.1 hc.2).mono ?_
 rintro e w' ⟨rfl,rfl⟩
 exact⟨[_],rfl,Below.refl _ _,fun M'=>⟨[_],rfl,fun _=>rfl,rfl⟩⟩
def ct_i_nat_divSmall:Ct:=⟨[PK.bo lU,PK.ro aU],true,[oR lU,oR aU],S.i_nat_divSmall,[]⟩
theorem v_i_nat_divSmall:Valid Tryz.prog gl 204 ct_i_nat_divSmall:=VV mixed tdOk [] [(3,[(8,dI),(7,Sp.dat false (Kd.int IntKind.u64)),(0,Sp.dat true lU),(6,Sp.own (88) true aU),(1,Sp.dat false aU)])] P.i_nat_divSmall (ctsCons v_i_nat_trim cN) Tryz.func204 S.i_nat_divSmall_ok
def ct_i_nat_shifted:Ct:=⟨[PK.bo lU,pI],false,[(false,[RC.own aU])],S.i_nat_shifted,[]⟩
theorem v_i_nat_shifted:Valid Tryz.prog gl 215 ct_i_nat_shifted:=VV mixed tdOk [] [(3,[(15,dI),(14,dI),(13,Sp.dat true lU),(1,dI),(5,Sp.own (96) true aU)])] P.i_nat_shifted cN Tryz.func215 S.i_nat_shifted_ok
def ct_i_takeAway:Ct:=⟨[PK.mu aU,PK.bo lU,PK.ro (Kd.int IntKind.u64)],false,rB,S.i_takeAway,[]⟩
theorem v_i_takeAway:Valid Tryz.prog gl 216 ct_i_takeAway:=VV mixed tdOk [] [(18,[(59,dI),(58,dI),(7,Sp.dat false (Kd.int IntKind.u64)),(0,Sp.own (0) false aU),(1,Sp.dat true lU)]),(3,[(14,dI),(13,dI),(1,Sp.dat true lU),(7,Sp.dat false (Kd.int IntKind.u64)),(2,Sp.dat false (Kd.int IntKind.u64)),(0,Sp.own (0) false aU),(8,dI)])] P.i_takeAway cN Tryz.func216 S.i_takeAway_ok
def ct_i_nat_div:Ct:=⟨[PK.ro lU,PK.ro lU],true,[oR lU,oR lU],S.i_nat_div,[]⟩
theorem trimN_snoc (xs:List Int) (x:Int):trimN (xs++[x])=if x=0 then trimN xs else xs.length+1:=by
 unfold trimN;rw[List.reverse_append]
 by_cases h:x=0
 ·simp [h]
 ·simp [h]
theorem trimN_le (xs:List Int):trimN xs<=xs.length:=by
 unfold trimN;have:=(List.dropWhile_sublist (fun x:Int=>x==0) (l:=xs.reverse)).length_le;simpa using this
def lenOfV:Value->Nat
 | .slice _ m _=>m
 |_=>0
set_option maxHeartbeats 800000 in
set_option maxRecDepth 100000 in
theorem trim_calls (b o real:Nat) (xs:List Int) (w:World) (hle:xs.length<=real) (hbig:xs.length<=1000000000000) (hc:∀(i:Nat) (x:Int),xs[i]? =some x->w.cell? ⟨b,o+i,none⟩=some (.int .u32 x)):
  Calls Tryz.prog 196 #[.slice (some ⟨b,o,none⟩) xs.length real] w fun e w'=>e= .returned (.slice (some ⟨b,o,none⟩) (trimN xs) real)/\w'=w:=by
 go_enter Tryz.func196,Tryz.ntmps196
 go_wp2
 go_loopw [0] (fun v wr=>∃m:Nat,m<=xs.length/\v= .slice (some ⟨b,o,none⟩) m real/\wr=w/\trimN (xs.take m)=trimN xs) (fun v _=>lenOfV v)
 case atStart=>exact⟨xs.length,Nat.le_refl _,rfl,rfl,by rw[List.take_length]⟩
 case round=>
  obtain⟨m,hm,rfl,rfl,ht⟩:=hrel
  by_cases h0:0<m
  ·obtain⟨k,rfl⟩:∃k,m=k+1:=⟨m - 1,by omega⟩
   have hx:xs[k]? =some xs[k]:=List.getElem?_eq_getElem (by omega);have hcx:=hc k _ hx;have hw:wrap64 (((k+1:Nat):Int) - 1)=(k:Int):=by
    have e:((k+1:Nat):Int) - 1=(k:Int):=by omega
    rw[e];exact IntWalk.wrap64_in _ (by omega)
   have ht':trimN (xs.take (k+1))=if xs[k]=0 then trimN (xs.take k)else k+1:=by
    rw[<-List.take_append_getElem (show k<xs.length by omega),trimN_snoc];have:(xs.take k).length=k:=by simp;omega
    rw[this]
   go_wp2
   ·have hz:(xs[k]==0)=true:=by assumption
    have hz':xs[k]=0:=by simpa using hz
    rw[if_pos hz']at ht';exact⟨⟨k,by omega,rfl,trivial,by rw[<-ht',ht]⟩,Nat.lt_succ_self k⟩
   ·have hz:(xs[k]==0)=false:=by assumption
    have hz':¬xs[k]=0:=by simpa using hz
    rw[if_neg hz']at ht';rw[<-ht,ht']
    go_ret
    exact⟨rfl,rfl⟩
  ·have h1:m=0:=by omega
   subst h1
   go_wp2
   have h2:trimN xs=0:=by rw[<-ht];rfl
   rw[h2]
   go_ret
   exact⟨rfl,rfl⟩
set_option maxHeartbeats 800000 in
set_option maxRecDepth 100000 in
theorem trim_calls0 (A:Option Addr) (real:Nat) (w:World):
  Calls Tryz.prog 196 #[.slice A 0 real] w fun e w'=>e= .returned (.slice A 0 real)/\w'=w:=by
 go_enter Tryz.func196,Tryz.ntmps196
 go_wp2
 refine wp_loop_rounds 1 ?_;rw[rounds_succ]
 go_wp2
 go_ret
 exact⟨rfl,rfl⟩
theorem shr_trim:ShrOk Tryz.prog 196 IntKind.u32 trimN:=by
 refine⟨enters_of Tryz.func196 (by kernel_rfl) (by kernel_rfl),fun w u xs A real hbig hsl hno hc=> ?_⟩;obtain⟨A',rfl,hle,hA⟩:=hsl;rcases Nat.eq_zero_or_pos real with h0|h0
 ·have h1:xs=[]:=List.eq_nil_of_length_eq_zero (by omega);subst h1;refine(trim_calls0 A' real w).mono ?_
  rintro e w' ⟨rfl,rfl⟩
  exact⟨rfl,Nat.le_refl _,_,rfl,rfl,A',rfl,Nat.zero_le _,fun h=>by omega⟩
 ·obtain⟨b,o,rfl,rfl⟩:=hA h0;refine(trim_calls b o real xs w hle hbig (hc b o rfl)).mono ?_
  rintro e w' ⟨rfl,rfl⟩
  have:=trimN_le xs;exact⟨rfl,this,_,rfl,rfl,_,rfl,by omega,fun _=>⟨b,o,rfl,rfl⟩⟩
theorem v_i_nat_div:Valid Tryz.prog gl 195 ct_i_nat_div:=VV mixed tdOk [] [(26,[(148,dI),(147,dI),(9,Sp.own (400) true aU),(8,dI),(13,Sp.own (592) true aU)]),(17,[(17,Sp.dat false (Kd.int IntKind.u64)),(12,Sp.dat false (Kd.int IntKind.u64)),(18,Sp.dat false (Kd.int IntKind.u64)),(9,Sp.own (400) true aU),(15,dI),(11,Sp.dat false (Kd.int IntKind.u64)),(14,dI),(10,Sp.dat false lU),(13,Sp.own (592) true aU),(8,dI)]),(12,[(14,dI),(10,Sp.dat false lU),(9,Sp.own (400) true aU),(11,Sp.dat false (Kd.int IntKind.u64)),(12,Sp.dat false (Kd.int IntKind.u64)),(13,Sp.own (592) true aU),(8,dI)])] P.i_nat_div (ctsCons v_math_bits_LeadingZeros32 (ctsCons v_i_nat_trim (ctsCons v_i_nat_cmp (ctsCons v_i_nat_divSmall (ctsCons v_i_nat_shifted (ctsCons v_i_takeAway (ctsShr (s:=(IntKind.u32,trimN)) shr_trim))))))) Tryz.func195 S.i_nat_div_ok
def ct_i_nat_small:Ct:=⟨[PK.bo lU],true,[oR (Kd.int IntKind.u64),oR Kd.bool],S.i_nat_small,[]⟩
theorem v_i_nat_small:Valid Tryz.prog gl 203 ct_i_nat_small:=VV mixed tdOk [] [(3,[(5,dI),(0,Sp.dat true lU),(4,Sp.dat false (Kd.int IntKind.u64))])] P.i_nat_small cN Tryz.func203 S.i_nat_small_ok
def ct_i_nat_gcd:Ct:=⟨[PK.ro lU,PK.ro lU],false,[oR lU],S.i_nat_gcd,[]⟩
theorem v_i_nat_gcd:Valid Tryz.prog gl 187 ct_i_nat_gcd:=VV mixed tdOk [] [(5,[(7,Sp.dat false (Kd.int IntKind.u64)),(5,Sp.dat false (Kd.int IntKind.u64))]),(1,[(1,Sp.dat false lU),(0,Sp.dat false lU)])] P.i_nat_gcd (ctsCons v_i_natOf (ctsCons v_i_nat_small (ctsCons v_i_nat_div cN))) Tryz.func187 S.i_nat_gcd_ok
def ct_i_lowest:Ct:=⟨[PK.ro Kd.bool,PK.ro lU,PK.ro lU],false,[(true,[RC.ro KR])],S.i_lowest,[]⟩
theorem v_i_lowest:Valid Tryz.prog gl 169 ct_i_lowest:=VV mixed tdOk [] [] P.i_lowest (ctsCons v_i_natOf (ctsCons v_i_nat_div (ctsCons v_i_nat_gcd cN))) Tryz.func169 S.i_lowest_ok
def ct_i_rat_sign:Ct:=⟨[PK.bo KR],false,[oR aI],S.i_rat_sign,[]⟩
theorem v_i_rat_sign:Valid Tryz.prog gl 79 ct_i_rat_sign:=VV mixed tdOk [] [] P.i_rat_sign cN Tryz.func79 S.i_rat_sign_ok
def ct_i_rat_add:Ct:=⟨[pR,pR],false,[(true,[RC.ro KR])],S.i_rat_add,[]⟩
theorem v_i_rat_add:Valid Tryz.prog gl 119 ct_i_rat_add:=VV mixed tdOk [] [] P.i_rat_add (ctsCons v_i_nat_cmp (ctsCons v_i_nat_sub (ctsCons v_i_nat_add (ctsCons v_i_nat_mul (ctsCons v_i_lowest (ctsCons v_i_rat_sign cN)))))) Tryz.func119 S.i_rat_add_ok
def ct_i_rat_cmp:Ct:=⟨[PK.bo KR,PK.bo KR],false,[oR aI],S.i_rat_cmp,[]⟩
theorem v_i_rat_cmp:Valid Tryz.prog gl 153 ct_i_rat_cmp:=VV mixed tdOk [] [] P.i_rat_cmp (ctsCons v_i_nat_cmp (ctsCons v_i_nat_mul (ctsCons v_i_rat_sign cN))) Tryz.func153 S.i_rat_cmp_ok
def ct_i_rat_isOne:Ct:=⟨[PK.bo KR],false,rB,S.i_rat_isOne,[]⟩
theorem v_i_rat_isOne:Valid Tryz.prog gl 182 ct_i_rat_isOne:=VV mixed tdOk [] [] P.i_rat_isOne (ctsCons v_i_whole (ctsCons v_i_rat_cmp cN)) Tryz.func182 S.i_rat_isOne_ok
def ct_strings_Cut:Ct:=⟨[PK.ro Kd.str,PK.ro Kd.str],true,[oR Kd.str,oR Kd.str,oR Kd.bool],S.strings_Cut,[]⟩
theorem v_strings_Cut (hM:InM gl):Valid Tryz.prog gl 184 ct_strings_Cut:=by
 refine told_flat (enters_of Tryz.func184 (by kernel_rfl) (by kernel_rfl)) (fun _ _ _ _ _ _=>trivial) (fun w M0 W0 us x γ hl hW ha r hr=> ?_);obtain⟨s,b,q⟩:=x;obtain⟨u1,_,rfl,⟨c1,h1,h1'⟩,u2,_,rfl,⟨c2,h2,h2'⟩,rfl⟩:=ha;cases h1';cases h2';subst h1;subst h2;unfold S.strings_Cut at hr;split at hr
 case isFalse=>cases hr
 rename_i hc;cases hr;obtain⟨m,hm⟩:=hM;refine(Tryz.strings_Cut s b m w hc (laid_cell hl hm)).mono ?_
 rintro e w' ⟨rfl,n,rfl⟩
 exact⟨[_,_,_],rfl,⟨rfl,rfl,rfl,Nat.le_refl _,fun _ _=>rfl⟩,fun M'=>⟨[_],[_,_],rfl,fun _=>rfl,rfl,[_],[_],rfl,fun _=>rfl,rfl,[_],rfl,fun _=>rfl,rfl⟩⟩
def ct_strings_CutPrefix:Ct:=⟨[PK.ro Kd.str,PK.ro Kd.str],true,[oR Kd.str,oR Kd.bool],S.strings_CutPrefix,[]⟩
theorem v_strings_CutPrefix:Valid Tryz.prog gl 185 ct_strings_CutPrefix:=by
 refine told_flat (enters_of Tryz.func185 (by kernel_rfl) (by kernel_rfl)) (fun _ _ _ _ _ _=>trivial) (fun w M0 W0 us x γ hl hW ha r hr=> ?_);obtain⟨s,b,q⟩:=x;obtain⟨u1,_,rfl,⟨c1,h1,h1'⟩,u2,_,rfl,⟨c2,h2,h2'⟩,rfl⟩:=ha;cases h1';cases h2';subst h1;subst h2;cases hr;refine(Tryz.strings_CutPrefix s b w).mono ?_
 rintro e w' ⟨rfl,rfl⟩
 exact⟨[_,_],rfl,Below.refl _ _,fun M'=>⟨[_],[_],rfl,fun _=>rfl,rfl,[_],rfl,fun _=>rfl,rfl⟩⟩
def ct_strconv_ParseUint:Ct:=⟨[PK.ro Kd.str,pI,pI],true,[oR (Kd.int IntKind.u64),oR Kd.er],S.strconv_ParseUint,[]⟩
theorem v_strconv_ParseUint (hR:InR gl) (hS:InS gl):Valid Tryz.prog gl 202 ct_strconv_ParseUint:=by
 refine told_flat (enters_of Tryz.func202 (by kernel_rfl) (by kernel_rfl)) (fun _ _ _ _ _ _=>trivial) (fun w M0 W0 us x γ hl hW ha r hr=> ?_);obtain⟨s,b,z,q⟩:=x;obtain⟨u1,_,rfl,⟨c1,h1,h1'⟩,u2,_,rfl,⟨c2,h2,h2'⟩,u3,_,rfl,⟨c3,h3,h3'⟩,rfl⟩:=ha;cases h1';cases h2';cases h3';subst h1;subst h2;subst h3;unfold S.strconv_ParseUint at hr;split at hr
 case isFalse=>cases hr
 rename_i hc;obtain⟨hb,hz,hs⟩:=hc;dsimp only at hb hz hs hr;subst hb;subst hz;obtain⟨t1,p1,hS⟩:=hS;obtain⟨t2,p2,hR⟩:=hR;have v1:w.var? Tryz.prog "strconv.ErrSyntax" =some #[.iface t1 p1]:=laid_var hl hS (by kernel_rfl);have v2:w.var? Tryz.prog "strconv.ErrRange" =some #[.iface t2 p2]:=laid_var hl hR (by kernel_rfl);split at hr
 ·rename_i v hv;cases hr;refine(Tryz.strconv_ParseUint_10_at64_ok s (by omega) v hv w).mono ?_
  rintro e w' ⟨rfl,hw⟩
  refine⟨[_,_],rfl,?_,fun M'=>⟨[_],[_],rfl,fun _=>rfl,rfl,[_],rfl,fun _=>rfl,_,rfl,rfl,rfl⟩⟩;rcases hw with rfl|⟨t,rfl⟩
  ·exact Below.refl _ _
  ·exact⟨rfl,rfl,rfl,by rw[Lib.bytesWorld_size];omega,fun k hk=>Lib.bytesWorld_at_old _ _ _ k (by omega)⟩
 ·rename_i hv;cases hr;refine(Tryz.strconv_ParseUint_10_at64_syntax_var s hs hv t1 p1 w v1).mono ?_
  rintro e w' ⟨N,rfl,_,_,hbl⟩
  exact⟨[_,_],rfl,hbl,fun M'=>⟨[_],[_],rfl,fun _=>rfl,rfl,[_],rfl,fun _=>rfl,_,rfl,rfl,_,_,rfl⟩⟩
 ·rename_i hv;cases hr;refine(Tryz.strconv_ParseUint_10_at64_range_var s hs hv t2 p2 w v2).mono ?_
  rintro e w' ⟨N,rfl,_,_,hbl⟩
  exact⟨[_,_],rfl,hbl,fun M'=>⟨[_],[_],rfl,fun _=>rfl,rfl,[_],rfl,fun _=>rfl,_,rfl,rfl,_,_,rfl⟩⟩
def ct_i_readNat:Ct:=⟨[PK.ro Kd.str],true,[oR lU,oR Kd.bool],S.i_readNat,[]⟩
theorem v_i_readNat (hR:InR gl) (hS:InS gl):Valid Tryz.prog gl 186 ct_i_readNat:=VV mixed tdOk [] [(17,[(59,dI),(58,dI),(9,Sp.dat false (Kd.int IntKind.u64)),(4,Sp.dat false lU),(7,Sp.dat false (Kd.int IntKind.u64)),(0,Sp.dat false Kd.str),(6,dI)]),(10,[(0,Sp.dat false Kd.str),(4,Sp.dat false lU)]),(5,[(30,dI),(29,dI),(0,Sp.dat false Kd.str),(4,Sp.dat false lU)])] P.i_readNat (ctsCons (v_strconv_ParseUint hR hS) (ctsCons v_i_natOf (ctsCons v_i_nat_add (ctsCons v_i_nat_mul cN)))) Tryz.func186 S.i_readNat_ok
def ct_i_readRat:Ct:=⟨[PK.ro Kd.str],true,[(true,[RC.ro KR]),oR Kd.bool],S.i_readRat,[]⟩
theorem v_i_readRat (hM:InM gl) (hR:InR gl) (hS:InS gl):Valid Tryz.prog gl 138 ct_i_readRat:=VV mixed tdOk [] [] P.i_readRat (ctsCons (v_strings_Cut hM) (ctsCons v_strings_CutPrefix (ctsCons v_i_natOf (ctsCons v_i_nat_cmp (ctsCons v_i_nat_gcd (ctsCons (v_i_readNat hR hS) cN)))))) Tryz.func138 S.i_readRat_ok
def ct_i_rats:Ct:=⟨[PK.bo lT],true,[oR lR,oR Kd.bool],S.i_rats,[]⟩
theorem v_i_rats (hM:InM gl) (hR:InR gl) (hS:InS gl):Valid Tryz.prog gl 75 ct_i_rats:=VV mixed tdOk [] [(5,[(15,dI),(14,dI),(13,Sp.dat true lT),(4,Sp.own (96) true KR)])] P.i_rats (ctsCons (v_i_readRat hM hR hS) cN) Tryz.func75 S.i_rats_ok
def ct_i_sum:Ct:=⟨[PK.ro lR],false,[(true,[RC.ro KR])],S.i_sum,[]⟩
theorem v_i_sum:Valid Tryz.prog gl 78 ct_i_sum:=VV mixed tdOk [] [(3,[(9,dI),(8,dI),(7,Sp.dat false lR),(3,Sp.var (24) KR),(2,Sp.var (16) KR)])] P.i_sum (ctsCons v_i_whole (ctsCons v_i_rat_add cN)) Tryz.func78 S.i_sum_ok
def ct_i_isMinus:Ct:=⟨[PK.bo KR],false,rB,S.i_isMinus,[]⟩
theorem v_i_isMinus:Valid Tryz.prog gl 77 ct_i_isMinus:=VV mixed tdOk [] [] P.i_isMinus (ctsCons v_i_rat_sign cN) Tryz.func77 S.i_isMinus_ok
def ct_slices_IndexFunc__i_rat_i_rat:Ct:=⟨[PK.bo lR,PK.fn (77)],false,[oR aI],S.slices_IndexFunc__i_rat_i_rat,[]⟩
theorem v_slices_IndexFunc__i_rat_i_rat:Valid Tryz.prog gl 139 ct_slices_IndexFunc__i_rat_i_rat:=VV mixed tdOk [] [(2,[(8,dI),(7,dI),(1,Sp.fn (77)),(0,Sp.dat true lR)])] P.slices_IndexFunc__i_rat_i_rat (ctsCons v_i_isMinus cN) Tryz.func139 S.slices_IndexFunc__i_rat_i_rat_ok
def ct_slices_ContainsFunc__i_rat_i_rat:Ct:=⟨[PK.bo lR,PK.fn (77)],false,rB,S.slices_ContainsFunc__i_rat_i_rat,[]⟩
theorem v_slices_ContainsFunc__i_rat_i_rat:Valid Tryz.prog gl 76 ct_slices_ContainsFunc__i_rat_i_rat:=VV mixed tdOk [] [] P.slices_ContainsFunc__i_rat_i_rat (ctsCons v_i_isMinus (ctsCons v_slices_IndexFunc__i_rat_i_rat cN)) Tryz.func76 S.slices_ContainsFunc__i_rat_i_rat_ok
def ct_i_notPlus:Ct:=⟨[PK.bo KR],false,rB,S.i_notPlus,[]⟩
theorem v_i_notPlus:Valid Tryz.prog gl 158 ct_i_notPlus:=VV mixed tdOk [] [] P.i_notPlus (ctsCons v_i_rat_sign cN) Tryz.func158 S.i_notPlus_ok
def ct_slices_IndexFunc__i_rat_i_ratP:Ct:=⟨[PK.bo lR,PK.fn (158)],false,[oR aI],S.slices_IndexFunc__i_rat_i_ratP,[]⟩
theorem v_slices_IndexFunc__i_rat_i_ratP:Valid Tryz.prog gl 139 ct_slices_IndexFunc__i_rat_i_ratP:=VV mixed tdOk [] [(2,[(8,dI),(7,dI),(1,Sp.fn (158)),(0,Sp.dat true lR)])] P.slices_IndexFunc__i_rat_i_ratP (ctsCons v_i_notPlus cN) Tryz.func139 S.slices_IndexFunc__i_rat_i_ratP_ok
def ct_slices_ContainsFunc__i_rat_i_ratP:Ct:=⟨[PK.bo lR,PK.fn (158)],false,rB,S.slices_ContainsFunc__i_rat_i_ratP,[]⟩
theorem v_slices_ContainsFunc__i_rat_i_ratP:Valid Tryz.prog gl 76 ct_slices_ContainsFunc__i_rat_i_ratP:=VV mixed tdOk [] [] P.slices_ContainsFunc__i_rat_i_ratP (ctsCons v_i_notPlus (ctsCons v_slices_IndexFunc__i_rat_i_ratP cN)) Tryz.func76 S.slices_ContainsFunc__i_rat_i_ratP_ok
def ct_i_weightsOf:Ct:=⟨[PK.bo lT],true,[oR lR,oR Kd.bool],S.i_weightsOf,[]⟩
theorem v_i_weightsOf (hM:InM gl) (hR:InR gl) (hS:InS gl):Valid Tryz.prog gl 136 ct_i_weightsOf:=VV mixed tdOk [] [] P.i_weightsOf (ctsCons v_i_rat_isOne (ctsCons (v_i_rats hM hR hS) (ctsCons v_i_sum (ctsCons v_i_isMinus (ctsCons v_slices_ContainsFunc__i_rat_i_rat (ctsCons v_slices_ContainsFunc__i_rat_i_ratP cN)))))) Tryz.func136 S.i_weightsOf_ok
def ct_i_chainOf:Ct:=⟨[PK.bo (Kd.st mT)],true,[oR mR,oR Kd.bool],S.i_chainOf,[]⟩
theorem v_i_chainOf (hM:InM gl) (hR:InR gl) (hS:InS gl):Valid Tryz.prog gl 64 ct_i_chainOf:=VV mixed tdOk [] [(5,[(23,dI),(22,dI),(21,Sp.dat true mT),(1,Sp.varb (8) mT),(4,Sp.own (152) true lR)])] P.i_chainOf (ctsCons (v_i_weightsOf hM hR hS) cN) Tryz.func64 S.i_chainOf_ok
def ct_strconv_FormatUint:Ct:=⟨[PK.ro (Kd.int IntKind.u64),pI],false,[oR Kd.str],S.strconv_FormatUint,[]⟩
set_option maxHeartbeats 6400000 in
set_option maxRecDepth 100000 in
open Go.Proofs Go.Shelf Go.RowKit Go.Sort Go.Lib in
theorem fu_small (i:Nat) (hi:i<100) (w:World):
  Calls Tryz.prog 222 #[.int .u64 i, .int .i64 10] w fun e w'=>e= .returned (.string ⟨(Lib.decDigits i).toArray⟩)/\w'=w:=by
 have eSm:∀args w,(callFunc 239 args).run Tryz.prog w= .ok (.enter 239 args) w:=Go.Proofs.enters_of Tryz.func239 (by kernel_rfl) rfl
 go_enter Tryz.func222,Tryz.ntmps222
 go_wp2_with (go_at_fn 239;refine(Tryz.internal_strconv_small i hi _).mono ?_;rintro e w' ⟨rfl,rfl⟩)
 go_ret
 exact⟨rfl,rfl⟩
set_option maxHeartbeats 12800000 in
set_option maxRecDepth 100000 in
open Go.Proofs Go.Shelf Go.RowKit Go.Sort Go.Lib in
theorem fu_big (u:Nat) (hu:100<=u) (hu64:u<18446744073709551616) (w:World)
  (htab:Lib.TabIs Tryz.prog w "internal/strconv.uint64pow10" .u64 Lib.pow10Tab):
  Calls Tryz.prog 222 #[.int .u64 u, .int .i64 10] w fun e w'=>e= .returned (.string ⟨(Lib.decDigits u).toArray⟩)/\∃k os,w'=grow (w.drewN k) os:=by
 have eNd:∀args w,(callFunc 240 args).run Tryz.prog w= .ok (.enter 240 args) w:=Go.Proofs.enters_of Tryz.func240 (by kernel_rfl) rfl;have eFb:∀args w,(callFunc 241 args).run Tryz.prog w= .ok (.enter 241 args) w:=Go.Proofs.enters_of Tryz.func241 (by kernel_rfl) rfl;have hu1:1<=u:=by omega
 have hnd20:Lib.nDigits u<=20:=by have:=Lib.numDigits_eq u hu1 hu64;split at this<;>omega
 have hal:Tryz.prog.arrayLen 259=24:=by simp [Program.arrayLen,Tryz.underlying259]
 have hsl:∀W,(Instr.sliceAt 259 (.pointer (some ⟨w.heap.size,0,none⟩)) none (some (.int .i64 (Lib.nDigits u:Int))) none).run Tryz.prog W= .ok (.slice (some ⟨w.heap.size,0,none⟩) (Lib.nDigits u) 24) W:=fun W=>by
  rw[run_sliceAt_array_h W 259 ⟨w.heap.size,0,none⟩ (by simp [Program.arrayLen,Program.elem,Tryz.underlying259]) .i64 (Lib.nDigits u:Int) (by omega) (by rw[hal];omega)]
  go_simp
 have hH0:=Lib.holds_zero0 w 259 (Lib.nDigits u) (by omega);have hfmt:=Tryz.internal_strconv_formatBase10 w.heap.size 0 24 u (Array.replicate (Lib.nDigits u) 0) (w.alloc (.cells Lib.zeros24 259)) hH0 (by rw[Array.size_replicate];exact Lib.lt_pow_nDigits u) hu64 (by rw[Array.size_replicate];omega);rw[Array.size_replicate]at hfmt;have HH0:=Lib.hid hH0;have iu:(100:Int)<=(u:Int):=by omega
 clear hH0 hal
 go_enter Tryz.func222,Tryz.ntmps222
 go_wp2_with (first
  |(go_at_fn 240;refine(Tryz.internal_strconv_numDigits u hu1 hu64 _ (Lib.tabIs_alloc htab _)).mono ?_;rintro e w' ⟨rfl,rfl⟩))
 go_at_fn 241
 refine hfmt.mono ?_
 rintro e w' ⟨rfl,k,v',dk,rfl,hF⟩
 have hcv:(convert 170 9 (.slice (some ⟨w.heap.size,0,none⟩) (Lib.nDigits u) 24)).run Tryz.prog ((putRow (fun(b:UInt8)=>Value.int .u8 (b.toNat:Int)) (w.alloc (.cells Lib.zeros24 259)) w.heap.size 0 dk).drewN k)= .ok (.string ⟨(Lib.decDigits u).toArray⟩) ((putRow (fun(b:UInt8)=>Value.int .u8 (b.toNat:Int)) (w.alloc (.cells Lib.zeros24 259)) w.heap.size 0 dk).drewN k):=by
  have h:=run_convert_bytes_back (P:=Tryz.prog) ((putRow (fun(b:UInt8)=>Value.int .u8 (b.toNat:Int)) (w.alloc (.cells Lib.zeros24 259)) w.heap.size 0 dk).drewN k) 170 9 5 ⟨w.heap.size,0,none⟩ 24 (Lib.decDigits u) Tryz.underlying170 Tryz.underlying5 Tryz.underlying9 (fun j hj=>by
   rw[Lib.row_is_numeral hF j hj,Lib.add_plain,World.cell?_drewN];exact cell?_putRow (fun(b:UInt8)=>Value.int .u8 (b.toNat:Int)) _ w.heap.size 0 _ dk HH0.out (by rw[hF.size,Array.size_replicate]) j (by rw[hF.size];rw[Lib.decDigits_length]at hj;exact hj))
  rw[Lib.decDigits_length]at h;exact h
 go_wp2
 go_ret
 obtain⟨os,eo⟩:=Lib.fin_at w (.cells Lib.zeros24 259) dk k 0;exact⟨rfl,k,os,eo⟩
set_option maxRecDepth 100000 in
open Go.Proofs Go.Shelf Go.RowKit Go.Sort Go.Lib in
theorem fu_pub (n:Nat) (h:n<18446744073709551616) (w:World)
  (htab:Lib.TabIs Tryz.prog w "internal/strconv.uint64pow10" .u64 Lib.pow10Tab):
  Calls Tryz.prog 205 #[.int .u64 n, .int .i64 10] w fun e w'=>e= .returned (.string ⟨(Lib.decDigits n).toArray⟩)/\∃k os,w'=grow (w.drewN k) os:=by
 have eFu:∀args w,(callFunc 222 args).run Tryz.prog w= .ok (.enter 222 args) w:=Go.Proofs.enters_of Tryz.func222 (by kernel_rfl) rfl;have hin:Calls Tryz.prog 222 #[.int .u64 n, .int .i64 10] w fun e w'=>e= .returned (.string ⟨(Lib.decDigits n).toArray⟩)/\∃k os,w'=grow (w.drewN k) os:=by
  by_cases h1:n<100
  ·refine(fu_small n h1 w).mono ?_
   rintro e w' ⟨rfl,rfl⟩
   exact⟨rfl,0, #[],by simp [World.drewN_zero]⟩
  ·exact fu_big n (by omega) h w htab
 go_enter Tryz.func205,Tryz.ntmps205
 go_wp2_with (go_at_fn 222;refine hin.mono ?_;rintro e w' ⟨rfl,k,os,rfl⟩)
 go_ret
 exact⟨rfl,k,os,rfl⟩
theorem belowGrowU (w:World) (k:Nat) (os:Array Obj):Below w.heap.size w (Go.Sort.grow (w.drewN k) os):=⟨rfl,rfl,rfl,by simp [Go.Sort.grow,World.drewN],fun b hb=>by simp [Go.Sort.grow,World.drewN,Array.getElem?_append_left hb]⟩
theorem v_strconv_FormatUint (hP:InP gl):Valid Tryz.prog gl 205 ct_strconv_FormatUint:=by
 refine told_flat (enters_of Tryz.func205 (by kernel_rfl) (by kernel_rfl)) (fun _ _ _ _ _ _=>trivial) (fun w M0 W0 us x γ hl hW ha r hr=> ?_);obtain⟨n,b,q⟩:=x;obtain⟨u1,_,rfl,⟨c1,h1,h1'⟩,u2,_,rfl,⟨c2,h2,h2'⟩,rfl⟩:=ha;cases h1';cases h2';subst h1;subst h2;unfold S.strconv_FormatUint at hr;split at hr
 case isFalse=>cases hr
 rename_i hc;obtain⟨hb,h0,h3⟩:=hc;cases hr;dsimp only at hb h0 h3;subst hb;obtain⟨m,rfl⟩:∃m:Nat,n=(m:Int):=⟨n.toNat,(Int.toNat_of_nonneg h0).symm⟩
 rw[Int.toNat_natCast];have htab:Lib.TabIs Tryz.prog w "internal/strconv.uint64pow10" .u64 Lib.pow10Tab:=laid_var hl hP (by kernel_rfl);refine(fu_pub m (by omega) w htab).mono ?_
 rintro e w' ⟨rfl,k,os,rfl⟩
 exact⟨[_],rfl,belowGrowU _ _ _,fun M'=>⟨[_],rfl,fun _=>rfl,rfl⟩⟩
def ct_strings_Join:Ct:=⟨[PK.bo lT,PK.ro Kd.str],false,[oR Kd.str],S.strings_Join,[]⟩
theorem v_strings_Join:Valid Tryz.prog gl 208 ct_strings_Join:=by
 refine told_flat (enters_of Tryz.func208 (by kernel_rfl) (by kernel_rfl)) (fun _ _ _ _ _ _=>trivial) (fun w M0 W0 us x γ hl hW ha r hr=> ?_);obtain⟨xs,sep,q⟩:=x;obtain⟨u1,_,rfl,⟨c1,h1,h1'⟩,u2,_,rfl,⟨c2,h2,h2'⟩,rfl⟩:=ha;cases h2';subst h2;obtain⟨A,c,rfl,hlc,hel⟩:=h1';subst h1;unfold S.strings_Join at hr;split at hr
 case isFalse=>cases hr
 rename_i hc;obtain⟨hn,hj⟩:=hc;cases hr;dsimp only at hn hj
 by_cases h0:xs.length=0
 ·have:xs=[]:=List.eq_nil_of_length_eq_zero h0;subst this;refine(Tryz.strings_Join_none A c sep w).mono ?_
  rintro e w' ⟨rfl,rfl⟩
  exact⟨[_],rfl,Below.refl _ _,fun M'=>⟨[_],rfl,fun _=>rfl,rfl⟩⟩
 ·obtain⟨b,o,rfl,hcell⟩:=hel h0;have hcells:∀(j:Nat) x,xs[j]? =some x->w.cell? ⟨b,o+j,none⟩=some (.string x):=by
   intro j x hx;obtain⟨es,e1,e2⟩:=hcell j x hx;cases e1;have:=(e2 0 _ rfl).1;simpa [Kd.sz]using this
  have hbk:b<w.heap.size:=by
   have:=hcells 0 xs[0] (List.getElem?_eq_getElem (by omega));exact World.block_lt_of_cell? _ _ this
  refine(Tryz.strings_Join b o c xs sep w hcells hbk hn hlc hj).mono ?_
  rintro e w' ⟨rfl,hbl⟩
  exact⟨[_],rfl,hbl,fun M'=>⟨[_],rfl,fun _=>rfl,rfl⟩⟩
def ct_strings_Repeat:Ct:=⟨[PK.ro Kd.str,pI],false,[oR Kd.str],S.strings_Repeat,[]⟩
theorem v_strings_Repeat:Valid Tryz.prog gl 206 ct_strings_Repeat:=by
 refine told_flat (enters_of Tryz.func206 (by kernel_rfl) (by kernel_rfl)) (fun _ _ _ _ _ _=>trivial) (fun w M0 W0 us x γ hl hW ha r hr=> ?_);obtain⟨s,c,q⟩:=x;obtain⟨u1,_,rfl,⟨c1,h1,h1'⟩,u2,_,rfl,⟨c2,h2,h2'⟩,rfl⟩:=ha;cases h1';cases h2';subst h1;subst h2;unfold S.strings_Repeat at hr;split at hr
 case isFalse=>cases hr
 rename_i hc;obtain⟨g0,g1,g2⟩:=hc;dsimp only at g0 g1 g2 hr;cases hr;obtain⟨n,rfl⟩:∃n:Nat,c=(n:Int):=⟨c.toNat,(Int.toNat_of_nonneg g0).symm⟩
 have hm:s.size*n<=1000000*1000000:=Nat.mul_le_mul g2 (by omega);refine(Tryz.strings_Repeat s n w (by omega) (by omega)).mono ?_
 rintro e w' ⟨rfl,hb⟩
 exact⟨[_],rfl,hb,fun M'=>⟨[_],rfl,fun _=>rfl,rfl⟩⟩
def ct_slices_Reverse__string_string:Ct:=⟨[PK.mu Kd.str],true,[],S.slices_Reverse__string_string,[]⟩
theorem v_slices_Reverse__string_string:Valid Tryz.prog gl 207 ct_slices_Reverse__string_string:=VV mixed tdOk [] [(1,[(2,dI),(3,dI),(0,Sp.own (0) false Kd.str)])] P.slices_Reverse__string_string cN Tryz.func207 S.slices_Reverse__string_string_ok
def ct_i_nat_text:Ct:=⟨[PK.bo lU],false,[oR Kd.str],S.i_nat_text,[]⟩
theorem v_i_nat_text (hP:InP gl):Valid Tryz.prog gl 188 ct_i_nat_text:=VV mixed tdOk [] [(4,[(0,Sp.dat true lU),(3,Sp.own (80) true Kd.str)])] P.i_nat_text (ctsCons (v_strconv_FormatUint hP) (ctsCons v_strings_Join (ctsCons v_strings_Repeat (ctsCons v_slices_Reverse__string_string (ctsCons v_i_nat_divSmall cN))))) Tryz.func188 S.i_nat_text_ok
def ct_i_rat_text:Ct:=⟨[PK.bo KR],true,[oR Kd.str,oR Kd.bool],S.i_rat_text,[]⟩
theorem v_i_rat_text (hP:InP gl):Valid Tryz.prog gl 140 ct_i_rat_text:=VV mixed tdOk [] [] P.i_rat_text (ctsCons (v_i_nat_text hP) cN) Tryz.func140 S.i_rat_text_ok
def ct_i_toldList:Ct:=⟨[PK.bo lR],true,[(false,[RC.own Kd.str]),oR Kd.bool],S.i_toldList,[]⟩
theorem v_i_toldList (hP:InP gl):Valid Tryz.prog gl 80 ct_i_toldList:=VV mixed tdOk [] [(3,[(12,dI),(11,dI),(10,Sp.dat true lR),(4,Sp.own (72) true Kd.str)])] P.i_toldList (ctsCons (v_i_rat_text hP) cN) Tryz.func80 S.i_toldList_ok
def ct_i_toldChain:Ct:=⟨[PK.bo mR],true,[(true,[RC.rows Kd.str]),oR Kd.bool],S.i_toldChain,[]⟩
theorem v_i_toldChain (hP:InP gl):Valid Tryz.prog gl 103 ct_i_toldChain:=VV mixed tdOk [1000027] [(3,[(12,dI),(11,dI),(10,Sp.dat true mR),(2,Sp.var (16) (Kd.st mT)),(4,Sp.vrow (32) (224) Kd.str)])] P.i_toldChain (ctsCons (v_i_toldList hP) cN) Tryz.func103 S.i_toldChain_ok
def ct_i_in:Ct:=⟨[pI,pI,pI],false,rB,S.i_in,[]⟩
theorem v_i_in:Valid Tryz.prog gl 108 ct_i_in:=VV mixed tdOk [] [] P.i_in cN Tryz.func108 S.i_in_ok
def ct_slices_Index__int64_int64:Ct:=⟨[PK.bo lI,pI],false,[oR aI],S.slices_Index__int64_int64,[]⟩
theorem v_slices_Index__int64_int64:Valid Tryz.prog gl 197 ct_slices_Index__int64_int64:=VV mixed tdOk [] [(2,[(8,dI),(7,dI),(1,dI),(0,Sp.dat true lI)])] P.slices_Index__int64_int64 cN Tryz.func197 S.slices_Index__int64_int64_ok
def ct_slices_Contains__int64_int64:Ct:=⟨[PK.bo lI,pI],false,rB,S.slices_Contains__int64_int64,[]⟩
theorem v_slices_Contains__int64_int64:Valid Tryz.prog gl 177 ct_slices_Contains__int64_int64:=VV mixed tdOk [] [] P.slices_Contains__int64_int64 (ctsCons v_slices_Index__int64_int64 cN) Tryz.func177 S.slices_Contains__int64_int64_ok
def ct_i_partsOf:Ct:=⟨[PK.bo lI,pI],false,[oR aI],S.i_partsOf,[]⟩
theorem v_i_partsOf:Valid Tryz.prog gl 124 ct_i_partsOf:=VV mixed tdOk [] [(10,[(24,dI),(23,dI),(0,Sp.dat true lI),(1,dI),(5,dI)]),(3,[(11,dI),(10,dI),(9,Sp.dat true lI),(5,dI),(0,Sp.dat true lI),(1,dI)])] P.i_partsOf (ctsCons v_i_in (ctsCons v_slices_Contains__int64_int64 cN)) Tryz.func124 S.i_partsOf_ok
def ct_i_sameRows11:Ct:=⟨[PK.bo KR,PK.bo KR],false,rB,S.i_sameRows11,[]⟩
theorem v_i_sameRows11:Valid Tryz.prog gl 152 ct_i_sameRows11:=VV mixed tdOk [] [] P.i_sameRows11 (ctsCons v_i_rat_cmp cN) Tryz.func152 S.i_sameRows11_ok
def ct_slices_EqualFunc__i_rat__i_rat_i_rat_i_rat:Ct:=⟨[PK.bo lR,PK.bo lR,PK.fn (152)],false,rB,S.slices_EqualFunc__i_rat__i_rat_i_rat_i_rat,[]⟩
theorem v_slices_EqualFunc__i_rat__i_rat_i_rat_i_rat:Valid Tryz.prog gl 151 ct_slices_EqualFunc__i_rat__i_rat_i_rat_i_rat:=VV mixed tdOk [] [(4,[(17,dI),(16,dI),(15,Sp.dat true lR),(1,Sp.dat true lR),(2,Sp.fn (152))])] P.slices_EqualFunc__i_rat__i_rat_i_rat_i_rat (ctsCons v_i_sameRows11 cN) Tryz.func151 S.slices_EqualFunc__i_rat__i_rat_i_rat_i_rat_ok
def ct_i_sameRows1:Ct:=⟨[PK.bo lR,PK.bo lR],false,rB,S.i_sameRows1,[]⟩
theorem v_i_sameRows1:Valid Tryz.prog gl 150 ct_i_sameRows1:=VV mixed tdOk [] [] P.i_sameRows1 (ctsCons v_i_sameRows11 (ctsCons v_slices_EqualFunc__i_rat__i_rat_i_rat_i_rat cN)) Tryz.func150 S.i_sameRows1_ok
def ct_slices_EqualFunc___i_rat___i_rat__i_rat__i_rat:Ct:=⟨[PK.bo mR,PK.bo mR,PK.fn (150)],false,rB,S.slices_EqualFunc___i_rat___i_rat__i_rat__i_rat,[]⟩
theorem v_slices_EqualFunc___i_rat___i_rat__i_rat__i_rat:Valid Tryz.prog gl 149 ct_slices_EqualFunc___i_rat___i_rat__i_rat__i_rat:=VV mixed tdOk [] [(4,[(17,dI),(16,dI),(15,Sp.dat true mR),(1,Sp.dat true mR),(2,Sp.fn (150))])] P.slices_EqualFunc___i_rat___i_rat__i_rat__i_rat (ctsCons v_i_sameRows1 cN) Tryz.func149 S.slices_EqualFunc___i_rat___i_rat__i_rat__i_rat_ok
def ct_i_sameRows:Ct:=⟨[PK.bo mR,PK.bo mR],false,rB,S.i_sameRows,[]⟩
theorem v_i_sameRows:Valid Tryz.prog gl 92 ct_i_sameRows:=VV mixed tdOk [] [] P.i_sameRows (ctsCons v_i_sameRows1 (ctsCons v_slices_EqualFunc___i_rat___i_rat__i_rat__i_rat cN)) Tryz.func92 S.i_sameRows_ok
def ct_i_LumpChain:Ct:=⟨[PK.bo (Kd.st mT),PK.bo lI],true,[(true,[RC.rows Kd.str]),oR Kd.bool],S.i_LumpChain,[]⟩
theorem v_i_LumpChain (hM:InM gl) (hP:InP gl) (hR:InR gl) (hS:InS gl):Valid Tryz.prog gl 52 ct_i_LumpChain:=VV mixed tdOk [1000033,2000033,3000084,3000086] [(10,[(49,dI),(48,dI),(47,Sp.dat false lR),(10,Sp.own (344) true KR),(1,Sp.dat true lI),(9,dI),(8,Sp.rows (264) true (Kd.st KR)),(4,Sp.var (32) mT),(36,dI),(35,dI),(6,Sp.dat false mR)]),(6,[(36,dI),(35,dI),(8,Sp.rows (264) true (Kd.st KR)),(6,Sp.dat false mR),(1,Sp.dat true lI),(4,Sp.var (32) (Kd.st mT))])] P.i_LumpChain (ctsCons v_slices_Repeat__i_rat_i_rat (ctsCons v_i_whole (ctsCons v_i_rat_add (ctsCons (v_i_chainOf hM hR hS) (ctsCons (v_i_toldChain hP) (ctsCons v_i_partsOf (ctsCons v_i_sameRows cN))))))) Tryz.func52 S.i_LumpChain_ok
def ct_l_FnExactLumpChain:Ct:=⟨[PK.bo (Kd.st mT),PK.bo lI],false,rB,S.l_FnExactLumpChain,[]⟩
theorem v_l_FnExactLumpChain (hM:InM gl) (hP:InP gl) (hR:InR gl) (hS:InS gl):Valid Tryz.prog gl 11 ct_l_FnExactLumpChain:=VV mixed tdOk [] [] P.l_FnExactLumpChain (ctsCons v_l_szChain (ctsCons v_l_toInt64So (ctsCons v_l_intactInt64S (ctsCons v_l_markInt64S (ctsCons v_l_eqChain (ctsCons v_l_intactChain (ctsCons v_l_markChain (ctsCons v_l_toChaino (ctsCons v_l_heldChain (ctsCons v_s_LumpChain (ctsCons (v_i_LumpChain hM hP hR hS) cN))))))))))) Tryz.func11 S.l_FnExactLumpChain_ok
end Go.Cm.LnLumpChain
end
