import Derived.Test.YtjacdajcppcdlaaGreatDoorPlReturnTime
import Derived.Test.YtjacdajcppcdlaaGreatDoorChecked
import Derived.Test.YtjacdajcppcdlaaGreatDoorL5zShelf
import Derived.WalkKit
import Derived.BigCall
import Derived.BigGuard
import Derived.Lib.ItoaMem
import Derived.Lib.AppendIntMem
set_option linter.unusedVariables false
set_option maxRecDepth 100000
noncomputable section
namespace Go.Cm.LnReturnTime
open Go.RowKit Go.Proofs
abbrev oR (k:Kd):RK:=(false,[RC.ro k])
abbrev KR:Kd:=Kd.st (Kd.pair Kd.bool (Kd.pair (Kd.sl (Kd.int .u32)) (Kd.sl (Kd.int .u32))))
abbrev KS:Kd:=Kd.st (Kd.pair Kd.bool (Kd.pair (Kd.sl (Kd.int .i64)) (Kd.sl (Kd.int .i64))))
abbrev aI:=Kd.int .i64
abbrev aU:=Kd.int .u32
abbrev lI:=Kd.sl aI
abbrev lU:=Kd.sl aU
abbrev lR:=Kd.sl KR
abbrev lS:=Kd.sl KS
abbrev mR:=Kd.sl lR
abbrev mS:=Kd.sl lS
abbrev lT:=Kd.sl Kd.str
abbrev mT:=Kd.sl lT
abbrev dI:=Sp.dat false aI
abbrev dL:=Sp.dat false lI
abbrev pR:=PK.ro KR
abbrev pS:=PK.ro KS
abbrev pI:=PK.ro aI
abbrev rB:List RK:=[(false,[.ro .bool])]
variable {gl:List (Nat×List Value)}
def td:List (Nat×Td):=[(2,⟨Kd.int IntKind.i64,8,false,0,[]⟩),(3,⟨Kd.int IntKind.i64,8,false,0,[]⟩),(4,⟨Kd.bool,1,false,0,[]⟩),(5,⟨Kd.int IntKind.u8,1,false,0,[]⟩),(9,⟨Kd.str,16,false,0,[]⟩),(20,⟨Kd.er,16,false,0,[]⟩),(22,⟨Kd.sl lT,24,false,27,[]⟩),(24,⟨Kd.st mT,24,true,0,[(0,22)]⟩),(25,⟨Kd.sl aI,24,false,2,[]⟩),(27,⟨Kd.sl Kd.str,24,false,9,[]⟩),(30,⟨Kd.st mT,24,true,0,[(0,22)]⟩),(46,⟨Kd.sl lS,24,false,55,[]⟩),(48,⟨Kd.st mS,24,true,0,[(0,46)]⟩),(51,⟨Kd.pt (Kd.st mT),8,false,0,[]⟩),(53,⟨Kd.pt (Kd.st mS),8,false,0,[]⟩),(55,⟨Kd.sl KS,24,false,78,[]⟩),(59,⟨Kd.sl lR,24,false,64,[]⟩),(60,⟨Kd.sl Kd.bool,24,false,4,[]⟩),(64,⟨Kd.sl KR,24,false,73,[]⟩),(69,⟨Kd.sl aI,24,false,3,[]⟩),(71,⟨Kd.sl aU,24,false,144,[]⟩),(73,⟨KR,56,true,0,[(0,4),(1,71),(2,71)]⟩),(78,⟨KS,56,true,0,[(0,4),(1,25),(2,25)]⟩),(106,⟨Kd.sl (Kd.int IntKind.u8),24,false,5,[]⟩),(117,⟨Kd.int IntKind.u64,8,false,0,[]⟩),(125,⟨Kd.int IntKind.u64,8,false,0,[]⟩),(144,⟨Kd.int IntKind.u32,4,false,0,[]⟩),(184,⟨Kd.er,16,false,0,[]⟩)]
theorem tdOk:TdsOk ⟨Tryz.prog,td,[],[],[]⟩ Tryz.prog:=tdsCons (tdN Tryz.underlying2) (tdsCons (tdN Tryz.underlying3) (tdsCons (tdN Tryz.underlying4) (tdsCons (tdN Tryz.underlying5) (tdsCons (tdN Tryz.underlying9) (tdsCons (tdN ⟨_,Tryz.underlying20⟩) (tdsCons (tdN Tryz.underlying22) (tdsCons (tdN ⟨_,Tryz.underlying24,by kernel_rfl,by kernel_rfl⟩) (tdsCons (tdN Tryz.underlying25) (tdsCons (tdN Tryz.underlying27) (tdsCons (tdN ⟨_,Tryz.underlying30,by kernel_rfl,by kernel_rfl⟩) (tdsCons (tdN Tryz.underlying46) (tdsCons (tdN ⟨_,Tryz.underlying48,by kernel_rfl,by kernel_rfl⟩) (tdsCons (.of (by kernel_rfl) (.inl rfl) rfl ⟨_,Tryz.underlying51⟩) (tdsCons (.of (by kernel_rfl) (.inl rfl) rfl ⟨_,Tryz.underlying53⟩) (tdsCons (tdN Tryz.underlying55) (tdsCons (tdN Tryz.underlying59) (tdsCons (tdN Tryz.underlying60) (tdsCons (tdN Tryz.underlying64) (tdsCons (tdN Tryz.underlying69) (tdsCons (tdN Tryz.underlying71) (tdsCons (tdN ⟨_,Tryz.underlying73,by kernel_rfl,by kernel_rfl⟩) (tdsCons (tdN ⟨_,Tryz.underlying78,by kernel_rfl,by kernel_rfl⟩) (tdsCons (tdN Tryz.underlying106) (tdsCons (tdN Tryz.underlying117) (tdsCons (tdN Tryz.underlying125) (tdsCons (tdN Tryz.underlying144) (tdsCons (tdN ⟨_,Tryz.underlying184⟩) (tdsNil _ _ _ _))))))))))))))))))))))))))))
theorem mixed:Tryz.prog.follows .mixedOrders=true:=by kernel_rfl
def InP (gl:List (Nat×List Value)):Prop:=(0,Go.Lib.pow10Tab.map fun z=>Value.int .u64 z)∈gl
def InM (gl:List (Nat×List Value)):Prop:=∃m,(1,[Value.int .i64 m])∈gl
def InS (gl:List (Nat×List Value)):Prop:=∃t p,(4,[Value.iface t p])∈gl
def InR (gl:List (Nat×List Value)):Prop:=∃t p,(5,[Value.iface t p])∈gl
def ct_l_szStringS:Ct:=⟨[PK.bo lT,pI],false,[oR aI],S.l_szStringS,[]⟩
theorem v_l_szStringS:a0l Tryz.prog gl 64 ct_l_szStringS:=VV mixed tdOk [] [(5,[(5,dI),(0,Sp.dat true lT),(1,dI)])] P.l_szStringS cN Tryz.func64 S.l_szStringS_ok
def ct_l_szStringSS:Ct:=⟨[PK.bo mT,pI],false,[oR aI],S.l_szStringSS,[]⟩
theorem v_l_szStringSS:a0l Tryz.prog gl 25 ct_l_szStringSS:=VV mixed tdOk [] [(5,[(5,dI),(0,Sp.dat true mT),(1,dI)])] P.l_szStringSS (a0b v_l_szStringS cN) Tryz.func25 S.l_szStringSS_ok
def ct_l_szChain:Ct:=⟨[PK.bo (Kd.st mT),pI],false,[oR aI],S.l_szChain,[]⟩
theorem v_l_szChain:a0l Tryz.prog gl 7 ct_l_szChain:=VV mixed tdOk [] [] P.l_szChain (a0b v_l_szStringSS cN) Tryz.func7 S.l_szChain_ok
def ct_l_roomBehind:Ct:=⟨[pI],false,[oR aI],S.a0p,[]⟩
theorem v_l_roomBehind:a0l Tryz.prog gl 31 ct_l_roomBehind:=VV mixed tdOk [] [] P.l_roomBehind cN Tryz.func31 S.l_roomBehind_ok
def ct_l_toStringS:Ct:=⟨[PK.bo lT,PK.ro Kd.bool],false,[oR (Kd.sv Kd.str)],S.l_toStringS,[]⟩
theorem v_l_toStringS:a0l Tryz.prog gl 69 ct_l_toStringS:=VV mixed tdOk [] [(9,[(7,dI),(5,Sp.own (160) true Kd.str),(0,Sp.dat true lT)]),(5,[(6,dI),(0,Sp.dat true lT),(5,Sp.own (160) true Kd.str)])] P.l_toStringS (a0b v_l_roomBehind cN) Tryz.func69 S.l_toStringS_ok
def ct_l_toStringSS:Ct:=⟨[PK.bo mT,PK.ro Kd.bool],false,[oR (Kd.sv (Kd.sv Kd.str))],S.l_toStringSS,[]⟩
theorem v_l_toStringSS:a0l Tryz.prog gl 30 ct_l_toStringSS:=VV mixed tdOk [20] [(9,[(7,dI),(5,Sp.own (160) true (Kd.sv Kd.str)),(0,Sp.dat true mT)]),(5,[(6,dI),(0,Sp.dat true mT),(5,Sp.own (160) true (Kd.sv Kd.str)),(1,Sp.dat false Kd.bool)])] P.l_toStringSS (a0b v_l_roomBehind (a0b v_l_toStringS cN)) Tryz.func30 S.l_toStringSS_ok
def ct_l_toStringSo:Ct:=⟨[PK.bo lT,PK.ro Kd.bool],false,[(false,[RC.ov Kd.str])],S.l_toStringSo,[]⟩
theorem v_l_toStringSo:a0l Tryz.prog gl 69 ct_l_toStringSo:=VV mixed tdOk [] [(9,[(7,dI),(5,Sp.own (160) true Kd.str),(0,Sp.dat true lT)]),(5,[(6,dI),(0,Sp.dat true lT),(5,Sp.own (160) true Kd.str)])] P.l_toStringSo (a0b v_l_roomBehind cN) Tryz.func69 S.l_toStringSo_ok
def ct_l_toStringSSo:Ct:=⟨[PK.bo mT,PK.ro Kd.bool],false,[(false,[RC.rows Kd.str])],S.l_toStringSSo,[]⟩
theorem v_l_toStringSSo:a0l Tryz.prog gl 30 ct_l_toStringSSo:=VV mixed tdOk [1000020] [(9,[(7,dI),(5,Sp.rows (160) true Kd.str),(0,Sp.dat true mT)]),(5,[(6,dI),(0,Sp.dat true mT),(5,Sp.rows (160) true Kd.str),(1,Sp.dat false Kd.bool)])] P.l_toStringSSo (a0b v_l_roomBehind (a0b v_l_toStringSo cN)) Tryz.func30 S.l_toStringSSo_ok
def ct_l_toChain:Ct:=⟨[PK.bo (Kd.st mT),PK.ro Kd.bool],false,[(true,[RC.ro (Kd.st (Kd.sv (Kd.sv Kd.str)))])],S.l_toChain,[]⟩
theorem v_l_toChain:a0l Tryz.prog gl 9 ct_l_toChain:=VV mixed tdOk [] [] P.l_toChain (a0b v_l_toStringSS (a0b v_l_toStringSSo cN)) Tryz.func9 S.l_toChain_ok
def ct_l_eqStringS:Ct:=⟨[PK.bo lT,PK.bo lT],false,rB,S.l_eqStringS,[]⟩
theorem v_l_eqStringS:a0l Tryz.prog gl 12 ct_l_eqStringS:=VV mixed tdOk [] [(4,[(5,dI),(0,Sp.dat true lT),(1,Sp.dat true lT)])] P.l_eqStringS cN Tryz.func12 S.l_eqStringS_ok
def ct_l_intactStringS:Ct:=⟨[PK.bo (Kd.sv Kd.str),PK.bo (Kd.sv Kd.str)],false,rB,S.l_intactStringS,[]⟩
theorem v_l_intactStringS:a0l Tryz.prog gl 72 ct_l_intactStringS:=VV mixed tdOk [] [] P.l_intactStringS (a0b v_l_roomBehind (a0b v_l_eqStringS cN)) Tryz.func72 S.l_intactStringS_ok
def ct_l_eqStringSS:Ct:=⟨[PK.bo mT,PK.bo mT],false,rB,S.l_eqStringSS,[]⟩
theorem v_l_eqStringSS:a0l Tryz.prog gl 73 ct_l_eqStringSS:=VV mixed tdOk [] [(4,[(5,dI),(0,Sp.dat true mT),(1,Sp.dat true mT)])] P.l_eqStringSS (a0b v_l_eqStringS cN) Tryz.func73 S.l_eqStringSS_ok
def ct_l_intactStringSS:Ct:=⟨[PK.bo (Kd.sv (Kd.sv Kd.str)),PK.bo (Kd.sv (Kd.sv Kd.str))],false,rB,S.l_intactStringSS,[]⟩
theorem v_l_intactStringSS:a0l Tryz.prog gl 35 ct_l_intactStringSS:=VV mixed tdOk [] [(5,[(6,dI),(1,Sp.dat true (Kd.sv (Kd.sv Kd.str))),(0,Sp.dat true (Kd.sv (Kd.sv Kd.str))),(5,dI)])] P.l_intactStringSS (a0b v_l_roomBehind (a0b v_l_intactStringS (a0b v_l_eqStringSS cN))) Tryz.func35 S.l_intactStringSS_ok
def ct_l_intactChain:Ct:=⟨[PK.bo (Kd.st (Kd.sv (Kd.sv Kd.str))),PK.bo (Kd.st (Kd.sv (Kd.sv Kd.str)))],false,rB,S.l_intactChain,[]⟩
theorem v_l_intactChain:a0l Tryz.prog gl 13 ct_l_intactChain:=VV mixed tdOk [] [] P.l_intactChain (a0b v_l_intactStringSS cN) Tryz.func13 S.l_intactChain_ok
def ct_s_l01Nat:Ct:=⟨[pI],false,[oR lI],S.s_l01Nat,[]⟩
theorem v_s_l01Nat:a0l Tryz.prog gl 106 ct_s_l01Nat:=VV mixed tdOk [] [(2,[(0,dI),(3,Sp.own (32) true aI)])] P.s_l01Nat cN Tryz.func106 S.s_l01Nat_ok
def ct_s_l01Int:Ct:=⟨[pI],false,[(true,[RC.ro KS])],S.s_l01Int,[]⟩
theorem v_s_l01Int:a0l Tryz.prog gl 76 ct_s_l01Int:=VV mixed tdOk [] [] P.s_l01Int (a0b v_s_l01Nat cN) Tryz.func76 S.s_l01Int_ok
def ct_s_l01One:Ct:=⟨[],false,[(true,[RC.ro KS])],S.s_l01One,[]⟩
theorem v_s_l01One:a0l Tryz.prog gl 48 ct_s_l01One:=VV mixed tdOk [] [] P.s_l01One (a0b v_s_l01Int cN) Tryz.func48 S.s_l01One_ok
def ct_s_l01None:Ct:=⟨[],false,[(true,[RC.ro KS])],S.s_l01None,[]⟩
theorem v_s_l01None:a0l Tryz.prog gl 44 ct_s_l01None:=VV mixed tdOk [] [] P.s_l01None (a0b v_s_l01Int cN) Tryz.func44 S.s_l01None_ok
def ct_s_l01Dec:Ct:=⟨[pI],false,[oR Kd.str],S.s_l01Dec,[]⟩
theorem v_s_l01Dec:a0l Tryz.prog gl 139 ct_s_l01Dec:=VV mixed tdOk [] [(3,[(3,Sp.dat false (Kd.sl (Kd.int IntKind.u8))),(4,dI),(0,dI)])] P.s_l01Dec cN Tryz.func139 S.s_l01Dec_ok
def ct_s_l01NatText:Ct:=⟨[PK.bo lI],false,[oR Kd.str],S.s_l01NatText,[]⟩
theorem v_s_l01NatText:a0l Tryz.prog gl 111 ct_s_l01NatText:=VV mixed tdOk [] [(5,[(4,dI),(0,Sp.dat true lI),(3,Sp.dat false Kd.str)])] P.s_l01NatText (a0b v_s_l01Dec cN) Tryz.func111 S.s_l01NatText_ok
def ct_s_l01Fits:Ct:=⟨[PK.bo KS],false,rB,S.s_l01Fits,[]⟩
theorem v_s_l01Fits:a0l Tryz.prog gl 82 ct_s_l01Fits:=VV mixed tdOk [] [] P.s_l01Fits (a0b v_s_l01NatText cN) Tryz.func82 S.s_l01Fits_ok
def ct_s_l01Cmp:Ct:=⟨[PK.bo lI,PK.bo lI],false,[oR aI],S.a0m,[]⟩
theorem v_s_l01Cmp:a0l Tryz.prog gl 80 ct_s_l01Cmp:=VV mixed tdOk [] [(6,[(5,dI),(0,Sp.dat true lI),(1,Sp.dat true lI)])] P.s_l01Cmp cN Tryz.func80 S.s_l01Cmp_ok
def ct_s_l01Show:Ct:=⟨[PK.bo KS],false,[oR Kd.str],S.s_l01Show,[]⟩
theorem v_s_l01Show:a0l Tryz.prog gl 83 ct_s_l01Show:=VV mixed tdOk [] [] P.s_l01Show (a0b v_s_l01Cmp (a0b v_s_l01NatText cN)) Tryz.func83 S.s_l01Show_ok
def ct_s_l01Give:Ct:=⟨[PK.bo KS],true,[oR Kd.str,oR Kd.bool],S.s_l01Give,[]⟩
theorem v_s_l01Give:a0l Tryz.prog gl 50 ct_s_l01Give:=VV mixed tdOk [] [] P.s_l01Give (a0b v_s_l01Fits (a0b v_s_l01Show cN)) Tryz.func50 S.s_l01Give_ok
def ct_s_l01Trim:Ct:=⟨[PK.ro lI],false,[oR lI],S.s_l01Trim,[]⟩
theorem v_s_l01Trim:a0l Tryz.prog gl 107 ct_s_l01Trim:=VV mixed tdOk [] [(1,[(0,dL)])] P.s_l01Trim cN Tryz.func107 S.s_l01Trim_ok
def ct_s_l01NatMul:Ct:=⟨[PK.bo lI,PK.bo lI],false,[oR lI],S.s_l01NatMul,[]⟩
theorem v_s_l01NatMul:a0l Tryz.prog gl 77 ct_s_l01NatMul:=VV mixed tdOk [] [(7,[(23,dI),(22,dI),(5,Sp.own (120) true aI),(6,dI),(0,Sp.dat true lI),(1,Sp.dat true lI),(7,dI),(18,dI),(17,dI)]),(3,[(18,dI),(17,dI),(1,Sp.dat true lI),(5,Sp.own (120) true aI),(0,Sp.dat true lI)])] P.s_l01NatMul (a0b v_s_l01Trim cN) Tryz.func77 S.s_l01NatMul_ok
def ct_s_l01Equal:Ct:=⟨[PK.bo KS,PK.bo KS],false,rB,S.s_l01Equal,[]⟩
theorem v_s_l01Equal:a0l Tryz.prog gl 47 ct_s_l01Equal:=VV mixed tdOk [] [] P.s_l01Equal (a0b v_s_l01Cmp (a0b v_s_l01NatMul cN)) Tryz.func47 S.s_l01Equal_ok
def ct_s_l01Digit:Ct:=⟨[PK.bo lI,pI],false,[oR aI],S.s_l01Digit,[]⟩
theorem v_s_l01Digit:a0l Tryz.prog gl 110 ct_s_l01Digit:=VV mixed tdOk [] [] P.s_l01Digit cN Tryz.func110 S.s_l01Digit_ok
def ct_s_l01NatAdd:Ct:=⟨[PK.bo lI,PK.bo lI],false,[oR lI],S.s_l01NatAdd,[]⟩
theorem v_s_l01NatAdd:a0l Tryz.prog gl 79 ct_s_l01NatAdd:=VV mixed tdOk [] [(4,[(7,dI),(0,Sp.dat true lI),(1,Sp.dat true lI),(6,dI),(5,Sp.own (72) true aI)])] P.s_l01NatAdd (a0b v_s_l01Digit cN) Tryz.func79 S.s_l01NatAdd_ok
def ct_s_l01NatLess:Ct:=⟨[PK.bo lI,PK.bo lI],false,[oR lI],S.s_l01NatLess,[]⟩
theorem v_s_l01NatLess:a0l Tryz.prog gl 81 ct_s_l01NatLess:=VV mixed tdOk [] [(4,[(12,dI),(11,dI),(0,Sp.dat true lI),(1,Sp.dat true lI),(6,dI),(5,Sp.own (72) true aI)])] P.s_l01NatLess (a0b v_s_l01Trim (a0b v_s_l01Digit cN)) Tryz.func81 S.s_l01NatLess_ok
def ct_s_l01Small:Ct:=⟨[PK.bo lI],true,[oR aI,oR Kd.bool],S.s_l01Small,[]⟩
theorem v_s_l01Small:a0l Tryz.prog gl 134 ct_s_l01Small:=VV mixed tdOk [] [] P.s_l01Small (a0b v_s_l01Digit cN) Tryz.func134 S.s_l01Small_ok
def ct_s_l01ShortMul:Ct:=⟨[PK.bo lI,pI],false,[(false,[RC.own aI])],S.s_l01ShortMul,[]⟩
theorem v_s_l01ShortMul:a0l Tryz.prog gl 136 ct_s_l01ShortMul:=VV mixed tdOk [] [(4,[(16,dI),(15,dI),(14,Sp.dat true lI),(1,dI),(6,dI),(5,Sp.own (104) true aI)])] P.s_l01ShortMul cN Tryz.func136 S.s_l01ShortMul_ok
def ct_s_l01ShortDiv:Ct:=⟨[PK.bo lI,pI],true,[oR lI,oR aI],S.s_l01ShortDiv,[]⟩
theorem v_s_l01ShortDiv:a0l Tryz.prog gl 135 ct_s_l01ShortDiv:=VV mixed tdOk [] [(4,[(8,dI),(7,dI),(0,Sp.dat true lI),(6,Sp.own (96) true aI),(1,dI)])] P.s_l01ShortDiv (a0b v_s_l01Trim cN) Tryz.func135 S.s_l01ShortDiv_ok
def ct_s_l01TakeOff:Ct:=⟨[PK.mu aI,PK.bo lI,pI,pI],false,rB,S.s_l01TakeOff,[]⟩
theorem v_s_l01TakeOff:a0l Tryz.prog gl 137 ct_s_l01TakeOff:=VV mixed tdOk [] [(3,[(15,dI),(14,dI),(13,Sp.dat true lI),(0,Sp.own (0) false aI),(2,dI),(3,dI),(9,dI),(1,Sp.dat true lI)])] P.s_l01TakeOff cN Tryz.func137 S.s_l01TakeOff_ok
def ct_s_l01PutBack:Ct:=⟨[PK.mu aI,PK.bo lI,pI],true,[],S.s_l01PutBack,[]⟩
theorem v_s_l01PutBack:a0l Tryz.prog gl 138 ct_s_l01PutBack:=VV mixed tdOk [] [(2,[(12,dI),(11,dI),(10,Sp.dat true lI),(0,Sp.own (0) false aI),(2,dI),(6,dI),(1,Sp.dat true lI)])] P.s_l01PutBack cN Tryz.func138 S.s_l01PutBack_ok
def ct_s_l01NatDiv:Ct:=⟨[PK.bo lI,PK.bo lI],true,[oR lI,oR lI],S.s_l01NatDiv,[]⟩
theorem v_s_l01NatDiv:a0l Tryz.prog gl 109 ct_s_l01NatDiv:=VV mixed tdOk [] [(21,[(19,dI),(14,dL),(15,dI),(20,dI),(13,Sp.own (624) true aI),(17,dI),(16,Sp.own (744) true aI),(12,dI)]),(17,[(17,dI),(13,Sp.own (624) true aI),(15,dI),(14,dL),(16,Sp.own (744) true aI),(12,dI)])] P.s_l01NatDiv (a0b v_s_l01Trim (a0b v_s_l01Nat (a0b v_s_l01Cmp (a0b v_s_l01Small (a0b v_s_l01ShortMul (a0b v_s_l01ShortDiv (a0b v_s_l01TakeOff (a0b v_s_l01PutBack cN)))))))) Tryz.func109 S.s_l01NatDiv_ok
def ct_s_l01Gcd:Ct:=⟨[PK.ro lI,PK.ro lI],false,[oR lI],S.s_l01Gcd,[]⟩
theorem v_s_l01Gcd:a0l Tryz.prog gl 108 ct_s_l01Gcd:=VV mixed tdOk [] [(1,[(1,dL),(0,dL)])] P.s_l01Gcd (a0b v_s_l01NatDiv cN) Tryz.func108 S.s_l01Gcd_ok
def ct_s_l01Make:Ct:=⟨[PK.ro Kd.bool,PK.ro lI,PK.ro lI],false,[(true,[RC.ro KS])],S.s_l01Make,[]⟩
theorem v_s_l01Make:a0l Tryz.prog gl 78 ct_s_l01Make:=VV mixed tdOk [] [] P.s_l01Make (a0b v_s_l01Cmp (a0b v_s_l01NatDiv (a0b v_s_l01Gcd cN))) Tryz.func78 S.s_l01Make_ok
def ct_s_l01Sum:Ct:=⟨[PK.bo KS,PK.bo KS],false,[(true,[RC.ro KS])],S.s_l01Sum,[]⟩
theorem v_s_l01Sum:a0l Tryz.prog gl 45 ct_s_l01Sum:=VV mixed tdOk [] [] P.s_l01Sum (a0b v_s_l01Cmp (a0b v_s_l01NatMul (a0b v_s_l01NatAdd (a0b v_s_l01NatLess (a0b v_s_l01Make cN))))) Tryz.func45 S.s_l01Sum_ok
def ct_s_l01Times:Ct:=⟨[PK.bo KS,PK.bo KS],false,[(true,[RC.ro KS])],S.s_l01Times,[]⟩
theorem v_s_l01Times:a0l Tryz.prog gl 46 ct_s_l01Times:=VV mixed tdOk [] [] P.s_l01Times (a0b v_s_l01NatMul (a0b v_s_l01Make cN)) Tryz.func46 S.s_l01Times_ok
def ct_s_l01Cut:Ct:=⟨[PK.ro Kd.str,PK.ro (Kd.int IntKind.u8)],false,[(false,[RC.own Kd.str])],S.s_l01Cut,[]⟩
theorem v_s_l01Cut:a0l Tryz.prog gl 125 ct_s_l01Cut:=VV mixed tdOk [] [(4,[(7,dI),(0,Sp.dat false Kd.str),(1,Sp.dat false (Kd.int IntKind.u8)),(5,Sp.own (64) true Kd.str),(6,dI)])] P.s_l01Cut cN Tryz.func125 S.s_l01Cut_ok
def ct_s_l01NatRead:Ct:=⟨[PK.ro Kd.str],false,[oR lI],S.a0r,[]⟩
theorem v_s_l01NatRead:a0l Tryz.prog gl 127 ct_s_l01NatRead:=VV mixed tdOk [] [(10,[(7,dI),(4,dI),(6,dI),(0,Sp.dat false Kd.str),(3,Sp.own (64) true aI)]),(3,[(4,dI),(0,Sp.dat false Kd.str),(3,Sp.own (64) true aI)])] P.s_l01NatRead (a0b v_s_l01Trim cN) Tryz.func127 S.s_l01NatRead_ok
def ct_s_l01Digits:Ct:=⟨[PK.ro Kd.str],false,rB,S.a0y,[]⟩
theorem v_s_l01Digits:a0l Tryz.prog gl 126 ct_s_l01Digits:=VV mixed tdOk [] [(2,[(3,dI),(0,Sp.dat false Kd.str)])] P.s_l01Digits cN Tryz.func126 S.s_l01Digits_ok
def ct_s_l01Parse:Ct:=⟨[PK.ro Kd.str],true,[(true,[RC.ro KS]),oR Kd.bool],S.s_l01Parse,[]⟩
theorem v_s_l01Parse:a0l Tryz.prog gl 101 ct_s_l01Parse:=VV mixed tdOk [] [] P.s_l01Parse (a0b v_s_l01Cut (a0b v_s_l01Cmp (a0b v_s_l01Gcd (a0b v_s_l01NatRead (a0b v_s_l01Digits cN))))) Tryz.func101 S.s_l01Parse_ok
def ct_s_l01List:Ct:=⟨[PK.bo lT],true,[oR lS,oR Kd.bool],S.s_l01List,[]⟩
theorem v_s_l01List:a0l Tryz.prog gl 65 ct_s_l01List:=VV mixed tdOk [] [(5,[(14,dI),(13,dI),(0,Sp.dat true lT),(4,Sp.own (88) true KS)])] P.s_l01List (a0b v_s_l01Parse cN) Tryz.func65 S.s_l01List_ok
def ct_s_l01Total:Ct:=⟨[PK.bo lS],false,[(true,[RC.ro KS])],S.s_l01Total,[]⟩
theorem v_s_l01Total:a0l Tryz.prog gl 103 ct_s_l01Total:=VV mixed tdOk [] [(3,[(8,dI),(7,dI),(3,Sp.var (24) KS),(0,Sp.dat true lS),(2,Sp.var (16) KS)])] P.s_l01Total (a0b v_s_l01None (a0b v_s_l01Sum cN)) Tryz.func103 S.s_l01Total_ok
def ct_s_l01Positive:Ct:=⟨[PK.bo lS],false,rB,S.s_l01Positive,[]⟩
theorem v_s_l01Positive:a0l Tryz.prog gl 102 ct_s_l01Positive:=VV mixed tdOk [] [(2,[(6,dI),(5,dI),(0,Sp.dat true lS)])] P.s_l01Positive cN Tryz.func102 S.s_l01Positive_ok
def ct_s_l01Weights:Ct:=⟨[PK.bo lS],false,rB,S.s_l01Weights,[]⟩
theorem v_s_l01Weights:a0l Tryz.prog gl 66 ct_s_l01Weights:=VV mixed tdOk [] [] P.s_l01Weights (a0b v_s_l01One (a0b v_s_l01Equal (a0b v_s_l01Total (a0b v_s_l01Positive cN)))) Tryz.func66 S.s_l01Weights_ok
def ct_s_l03Parse:Ct:=⟨[PK.bo (Kd.pt (Kd.st mT))],true,[(true,[RC.ro (Kd.st mS)]),oR Kd.bool],S.s_l03Parse,[]⟩
theorem v_s_l03Parse:a0l Tryz.prog gl 26 ct_s_l03Parse:=VV mixed tdOk [] [(6,[(27,dI),(26,dI),(0,Sp.dat true (Kd.pt (Kd.st mT))),(4,dI),(2,Sp.var (16) (Kd.st mS)),(5,Sp.vow (40) (512) lS)])] P.s_l03Parse (a0b v_s_l01List (a0b v_s_l01Weights cN)) Tryz.func26 S.s_l03Parse_ok
def ct_s_l00In:Ct:=⟨[pI,pI,pI],false,rB,S.s_l00In,[]⟩
theorem v_s_l00In:a0l Tryz.prog gl 75 ct_s_l00In:=VV mixed tdOk [] [] P.s_l00In cN Tryz.func75 S.s_l00In_ok
def ct_s_l03State:Ct:=⟨[PK.bo (Kd.pt (Kd.st mS)),pI],false,rB,S.s_l03State,[]⟩
theorem v_s_l03State:a0l Tryz.prog gl 43 ct_s_l03State:=VV mixed tdOk [] [] P.s_l03State (a0b v_s_l00In cN) Tryz.func43 S.s_l03State_ok
def ct_s_l00Has:Ct:=⟨[PK.bo lI,pI],false,rB,S.s_l00Has,[]⟩
theorem v_s_l00Has:a0l Tryz.prog gl 58 ct_s_l00Has:=VV mixed tdOk [] [(2,[(5,dI),(0,Sp.dat true lI),(1,dI)])] P.s_l00Has cN Tryz.func58 S.s_l00Has_ok
def ct_s_l00Put:Ct:=⟨[PK.ro lI,pI],false,[oR lI],S.s_l00Put,[]⟩
theorem v_s_l00Put:a0l Tryz.prog gl 128 ct_s_l00Put:=VV mixed tdOk [] [(4,[(7,dI),(0,dL),(6,Sp.dat false Kd.bool),(1,dI),(5,Sp.own (64) true aI)])] P.s_l00Put cN Tryz.func128 S.s_l00Put_ok
def ct_s_l01Zero:Ct:=⟨[PK.bo KS],false,rB,S.s_l01Zero,[]⟩
theorem v_s_l01Zero:a0l Tryz.prog gl 119 ct_s_l01Zero:=VV mixed tdOk [] [] P.s_l01Zero cN Tryz.func119 S.s_l01Zero_ok
def ct_s_l03Reach:Ct:=⟨[PK.bo (Kd.pt (Kd.st mS)),pI],false,[oR lI],S.s_l03Reach,[]⟩
theorem v_s_l03Reach:a0l Tryz.prog gl 104 ct_s_l03Reach:=VV mixed tdOk [] [(7,[(24,dI),(23,dI),(0,Sp.dat true (Kd.pt (Kd.st mS))),(5,Sp.own (80) true aI),(7,dI),(6,dL)]),(4,[(7,dI),(5,Sp.own (80) true aI),(0,Sp.dat true (Kd.pt (Kd.st mS))),(6,dL)])] P.s_l03Reach (a0b v_s_l00Has (a0b v_s_l00Put (a0b v_s_l01Zero cN))) Tryz.func104 S.s_l03Reach_ok
def ct_s_l03Inner:Ct:=⟨[PK.bo (Kd.pt (Kd.st mS)),PK.bo lI],false,[oR lI],S.s_l03Inner,[]⟩
theorem v_s_l03Inner:a0l Tryz.prog gl 68 ct_s_l03Inner:=VV mixed tdOk [] [(8,[(26,dI),(25,dI),(1,Sp.dat true lI),(7,dL),(5,Sp.own (72) true aI),(6,dI),(15,dI),(14,dI),(0,Sp.dat true (Kd.pt (Kd.st mS)))]),(3,[(15,dI),(14,dI),(1,Sp.dat true lI),(0,Sp.dat true (Kd.pt (Kd.st mS))),(5,Sp.own (72) true aI)])] P.s_l03Inner (a0b v_s_l00Has (a0b v_s_l03Reach cN)) Tryz.func68 S.s_l03Inner_ok
def ct_s_l01Opposite:Ct:=⟨[pS],false,[(true,[RC.ro KS])],S.s_l01Opposite,[]⟩
theorem v_s_l01Opposite:a0l Tryz.prog gl 94 ct_s_l01Opposite:=VV mixed tdOk [] [] P.s_l01Opposite cN Tryz.func94 S.s_l01Opposite_ok
def ct_s_l01Minus:Ct:=⟨[pS,pS],false,[(true,[RC.ro KS])],S.s_l01Minus,[]⟩
theorem v_s_l01Minus:a0l Tryz.prog gl 122 ct_s_l01Minus:=VV mixed tdOk [] [] P.s_l01Minus (a0b v_s_l01Opposite (a0b v_s_l01Sum cN)) Tryz.func122 S.s_l01Minus_ok
def ct_s_l01Over:Ct:=⟨[PK.bo KS,PK.bo KS],false,[(true,[RC.ro KS])],S.s_l01Over,[]⟩
theorem v_s_l01Over:a0l Tryz.prog gl 121 ct_s_l01Over:=VV mixed tdOk [] [] P.s_l01Over (a0b v_s_l01NatMul (a0b v_s_l01Make cN)) Tryz.func121 S.s_l01Over_ok
def ct_s_l03Swap:Ct:=⟨[PK.mr KS,pI,pI],true,[],S.s_l03Swap,[]⟩
theorem v_s_l03Swap:a0l Tryz.prog gl 120 ct_s_l03Swap:=VV mixed tdOk [] [] P.s_l03Swap cN Tryz.func120 S.s_l03Swap_ok
def ct_s_l03Solve:Ct:=⟨[PK.mr KS],true,[oR lS,oR Kd.bool],S.s_l03Solve,[]⟩
theorem v_s_l03Solve:a0l Tryz.prog gl 95 ct_s_l03Solve:=VV mixed tdOk [] [(22,[(11,dI),(4,dI),(10,Sp.own (832) true KS),(0,Sp.rows (0) false KS)]),(17,[(9,dI),(4,dI),(0,Sp.rows (0) false KS),(7,dI),(8,Sp.var (64) KS),(5,dI)]),(12,[(7,dI),(4,dI),(5,dI),(0,Sp.rows (0) false KS)]),(6,[(6,dI),(4,dI),(0,Sp.rows (0) false KS),(5,dI)]),(3,[(5,dI),(4,dI),(0,Sp.rows (0) false KS)])] P.s_l03Solve (a0b v_s_l01Zero (a0b v_s_l01Minus (a0b v_s_l01Times (a0b v_s_l01Over (a0b v_s_l03Swap cN))))) Tryz.func95 S.s_l03Solve_ok
def ct_s_l03Means:Ct:=⟨[PK.pm (Kd.st mS),PK.bo lI,PK.ro lS,PK.ro lS],false,[oR lS],S.s_l03Means,[]⟩
theorem v_s_l03Means:a0l Tryz.prog gl 59 ct_s_l03Means:=VV mixed tdOk [1000021,1000101] [(27,[(114,dI),(113,dI),(19,Sp.own (872) true KS),(1,Sp.dat true lI),(17,Sp.dat false lS)]),(17,[(71,dI),(70,dI),(1,Sp.dat true lI),(15,Sp.var (120) KS),(0,Sp.pm (Kd.st mS)),(11,dI),(3,Sp.dat false lS),(9,Sp.rows (168) true KS),(12,Sp.own (248) true KS),(24,dI),(23,dI),(2,Sp.dat false lS)]),(8,[(34,dI),(33,dI),(0,Sp.pm (Kd.st mS)),(11,dI),(1,Sp.dat true lI),(10,dI),(12,Sp.own (248) true KS),(2,Sp.dat false lS),(3,Sp.dat false lS),(9,Sp.rows (168) true KS),(24,dI),(23,dI)]),(3,[(24,dI),(23,dI),(1,Sp.dat true lI),(0,Sp.pm (Kd.st mS)),(2,Sp.dat false lS),(3,Sp.dat false lS),(9,Sp.rows (168) true KS)])] P.s_l03Means (a0b v_s_l00Has (a0b v_s_l01One (a0b v_s_l01Opposite (a0b v_s_l01Sum (a0b v_s_l01Times (a0b v_s_l03Solve cN)))))) Tryz.func59 S.s_l03Means_ok
def ct_s_l03Hits:Ct:=⟨[PK.pm (Kd.st mS),PK.bo lI],false,[oR lS],S.s_l03Hits,[]⟩
theorem v_s_l03Hits:a0l Tryz.prog gl 29 ct_s_l03Hits:=VV mixed tdOk [] [(4,[(15,dI),(14,dI),(5,Sp.own (64) true KS),(1,Sp.dat true lI),(6,Sp.own (72) true KS),(0,Sp.pm (Kd.st mS))])] P.s_l03Hits (a0b v_s_l00Has (a0b v_s_l01One (a0b v_s_l01None (a0b v_s_l03Inner (a0b v_s_l03Means cN))))) Tryz.func29 S.s_l03Hits_ok
def ct_s_l03Sure:Ct:=⟨[PK.pm (Kd.st mS),PK.bo lI,PK.bo lS],false,[oR lS],S.s_l03Sure,[]⟩
theorem v_s_l03Sure:a0l Tryz.prog gl 49 ct_s_l03Sure:=VV mixed tdOk [] [(5,[(19,dI),(18,dI),(8,Sp.own (96) true KS),(9,Sp.own (104) true KS),(1,Sp.dat true lI),(2,Sp.dat true lS),(7,Sp.own (88) true aI),(0,Sp.pm (Kd.st mS))])] P.s_l03Sure (a0b v_s_l00Has (a0b v_s_l01One (a0b v_s_l01None (a0b v_s_l01Equal (a0b v_s_l03Means cN))))) Tryz.func49 S.s_l03Sure_ok
def ct_s_ReturnTime:Ct:=⟨[PK.bo (Kd.st mT),pI],true,[oR Kd.str,oR Kd.bool],S.s_ReturnTime,[]⟩
theorem v_s_ReturnTime:a0l Tryz.prog gl 21 ct_s_ReturnTime:=VV mixed tdOk [] [(17,[(64,dI),(63,dI),(13,Sp.var (104) KS),(6,Sp.var (48) mS),(1,dI),(12,Sp.dat false lS)]),(8,[(34,dI),(33,dI),(10,Sp.var (80) KS),(6,Sp.var (48) mS),(1,dI),(9,Sp.dat false lS),(8,dL)])] P.s_ReturnTime (a0b v_s_l01One (a0b v_s_l01None (a0b v_s_l01Give (a0b v_s_l01Equal (a0b v_s_l01Sum (a0b v_s_l01Times (a0b v_s_l03Parse (a0b v_s_l03State (a0b v_s_l03Hits (a0b v_s_l03Sure cN)))))))))) Tryz.func21 S.s_ReturnTime_ok
def ct_i_magnitude:Ct:=⟨[pI],false,[oR (Kd.int IntKind.u64)],S.i_magnitude,[]⟩
theorem v_i_magnitude:a0l Tryz.prog gl 87 ct_i_magnitude:=VV mixed tdOk [] [] P.i_magnitude cN Tryz.func87 S.i_magnitude_ok
def ct_i_nat_trim:Ct:=⟨[PK.ro lU],false,[oR lU],S.i_nat_trim,[]⟩
theorem v_i_nat_trim:a0l Tryz.prog gl 116 ct_i_nat_trim:=VV mixed tdOk [] [(1,[(0,Sp.dat false lU)])] P.i_nat_trim cN Tryz.func116 S.i_nat_trim_ok
def ct_i_natOf:Ct:=⟨[PK.ro (Kd.int IntKind.u64)],false,[oR lU],S.i_natOf,[]⟩
theorem v_i_natOf:a0l Tryz.prog gl 86 ct_i_natOf:=VV mixed tdOk [] [] P.i_natOf (a0b v_i_nat_trim cN) Tryz.func86 S.i_natOf_ok
def ct_i_whole:Ct:=⟨[pI],false,[(true,[RC.ro KR])],S.i_whole,[]⟩
theorem v_i_whole:a0l Tryz.prog gl 53 ct_i_whole:=VV mixed tdOk [] [] P.i_whole (a0b v_i_magnitude (a0b v_i_natOf cN)) Tryz.func53 S.i_whole_ok
def ct_strconv_FormatUint:Ct:=⟨[PK.ro (Kd.int IntKind.u64),pI],false,[oR Kd.str],S.strconv_FormatUint,[]⟩
set_option maxHeartbeats 6400000 in
set_option maxRecDepth 100000 in
open Go.Proofs Go.Shelf Go.RowKit Go.Sort Go.Lib in
theorem fu_small (i:Nat) (hi:i<100) (w:World):
  Calls Tryz.prog 146 #[.int .u64 i, .int .i64 10] w fun e w'=>e= .returned (.string ⟨(Lib.decDigits i).toArray⟩)/\w'=w:=by
 have eSm:∀args w,(callFunc 156 args).run Tryz.prog w= .ok (.enter 156 args) w:=Go.Proofs.enters_of Tryz.func156 (by kernel_rfl) rfl
 go_enter Tryz.func146,Tryz.ntmps146
 go_wp2_with (go_at_fn 156;refine(Tryz.internal_strconv_small i hi _).mono ?_;rintro e w' ⟨rfl,rfl⟩)
 go_ret
 exact⟨rfl,rfl⟩
set_option maxHeartbeats 12800000 in
set_option maxRecDepth 100000 in
open Go.Proofs Go.Shelf Go.RowKit Go.Sort Go.Lib in
theorem fu_big (u:Nat) (hu:100<=u) (hu64:u<18446744073709551616) (w:World)
  (htab:Lib.TabIs Tryz.prog w "internal/strconv.uint64pow10" .u64 Lib.pow10Tab):
  Calls Tryz.prog 146 #[.int .u64 u, .int .i64 10] w fun e w'=>e= .returned (.string ⟨(Lib.decDigits u).toArray⟩)/\∃k os,w'=grow (w.drewN k) os:=by
 have eNd:∀args w,(callFunc 157 args).run Tryz.prog w= .ok (.enter 157 args) w:=Go.Proofs.enters_of Tryz.func157 (by kernel_rfl) rfl;have eFb:∀args w,(callFunc 158 args).run Tryz.prog w= .ok (.enter 158 args) w:=Go.Proofs.enters_of Tryz.func158 (by kernel_rfl) rfl;have hu1:1<=u:=by omega
 have hnd20:Lib.nDigits u<=20:=by have:=Lib.numDigits_eq u hu1 hu64;split at this<;>omega
 have hal:Tryz.prog.arrayLen 192=24:=by simp [Program.arrayLen,Tryz.underlying192]
 have hsl:∀W,(Instr.sliceAt 192 (.pointer (some ⟨w.heap.size,0,none⟩)) none (some (.int .i64 (Lib.nDigits u:Int))) none).run Tryz.prog W= .ok (.slice (some ⟨w.heap.size,0,none⟩) (Lib.nDigits u) 24) W:=fun W=>by
  rw[run_sliceAt_array_h W 192 ⟨w.heap.size,0,none⟩ (by simp [Program.arrayLen,Program.elem,Tryz.underlying192]) .i64 (Lib.nDigits u:Int) (by omega) (by rw[hal];omega)]
  go_simp
 have hH0:=Lib.holds_zero0 w 192 (Lib.nDigits u) (by omega);have hfmt:=Tryz.internal_strconv_formatBase10 w.heap.size 0 24 u (Array.replicate (Lib.nDigits u) 0) (w.alloc (.cells Lib.zeros24 192)) hH0 (by rw[Array.size_replicate];exact Lib.lt_pow_nDigits u) hu64 (by rw[Array.size_replicate];omega);rw[Array.size_replicate]at hfmt;have HH0:=Lib.hid hH0;have iu:(100:Int)<=(u:Int):=by omega
 clear hH0 hal
 go_enter Tryz.func146,Tryz.ntmps146
 go_wp2_with (first
  |(go_at_fn 157;refine(Tryz.internal_strconv_numDigits u hu1 hu64 _ (Lib.tabIs_alloc htab _)).mono ?_;rintro e w' ⟨rfl,rfl⟩))
 go_at_fn 158
 refine hfmt.mono ?_
 rintro e w' ⟨rfl,k,v',dk,rfl,hF⟩
 have hcv:(convert 106 9 (.slice (some ⟨w.heap.size,0,none⟩) (Lib.nDigits u) 24)).run Tryz.prog ((putRow (fun(b:UInt8)=>Value.int .u8 (b.toNat:Int)) (w.alloc (.cells Lib.zeros24 192)) w.heap.size 0 dk).drewN k)= .ok (.string ⟨(Lib.decDigits u).toArray⟩) ((putRow (fun(b:UInt8)=>Value.int .u8 (b.toNat:Int)) (w.alloc (.cells Lib.zeros24 192)) w.heap.size 0 dk).drewN k):=by
  have h:=run_convert_bytes_back (P:=Tryz.prog) ((putRow (fun(b:UInt8)=>Value.int .u8 (b.toNat:Int)) (w.alloc (.cells Lib.zeros24 192)) w.heap.size 0 dk).drewN k) 106 9 5 ⟨w.heap.size,0,none⟩ 24 (Lib.decDigits u) Tryz.underlying106 Tryz.underlying5 Tryz.underlying9 (fun j hj=>by
   rw[Lib.row_is_numeral hF j hj,Lib.add_plain,World.cell?_drewN];exact cell?_putRow (fun(b:UInt8)=>Value.int .u8 (b.toNat:Int)) _ w.heap.size 0 _ dk HH0.out (by rw[hF.size,Array.size_replicate]) j (by rw[hF.size];rw[Lib.decDigits_length]at hj;exact hj))
  rw[Lib.decDigits_length]at h;exact h
 go_wp2
 go_ret
 obtain⟨os,eo⟩:=Lib.fin_at w (.cells Lib.zeros24 192) dk k 0;exact⟨rfl,k,os,eo⟩
set_option maxRecDepth 100000 in
open Go.Proofs Go.Shelf Go.RowKit Go.Sort Go.Lib in
theorem fu_pub (n:Nat) (h:n<18446744073709551616) (w:World)
  (htab:Lib.TabIs Tryz.prog w "internal/strconv.uint64pow10" .u64 Lib.pow10Tab):
  Calls Tryz.prog 130 #[.int .u64 n, .int .i64 10] w fun e w'=>e= .returned (.string ⟨(Lib.decDigits n).toArray⟩)/\∃k os,w'=grow (w.drewN k) os:=by
 have eFu:∀args w,(callFunc 146 args).run Tryz.prog w= .ok (.enter 146 args) w:=Go.Proofs.enters_of Tryz.func146 (by kernel_rfl) rfl;have hin:Calls Tryz.prog 146 #[.int .u64 n, .int .i64 10] w fun e w'=>e= .returned (.string ⟨(Lib.decDigits n).toArray⟩)/\∃k os,w'=grow (w.drewN k) os:=by
  by_cases h1:n<100
  ·refine(fu_small n h1 w).mono ?_
   rintro e w' ⟨rfl,rfl⟩
   exact⟨rfl,0, #[],by simp [World.drewN_zero]⟩
  ·exact fu_big n (by omega) h w htab
 go_enter Tryz.func130,Tryz.ntmps130
 go_wp2_with (go_at_fn 146;refine hin.mono ?_;rintro e w' ⟨rfl,k,os,rfl⟩)
 go_ret
 exact⟨rfl,k,os,rfl⟩
theorem belowGrowU (w:World) (k:Nat) (os:Array Obj):Below w.heap.size w (Go.Sort.grow (w.drewN k) os):=⟨rfl,rfl,rfl,by simp [Go.Sort.grow,World.drewN],fun b hb=>by simp [Go.Sort.grow,World.drewN,Array.getElem?_append_left hb]⟩
theorem v_strconv_FormatUint (hP:InP gl):a0l Tryz.prog gl 130 ct_strconv_FormatUint:=by
 refine told_flat (enters_of Tryz.func130 (by kernel_rfl) (by kernel_rfl)) (fun _ _ _ _ _ _=>trivial) (fun w M0 W0 us x γ hl hW ha r hr=> ?_);obtain⟨n,b,q⟩:=x;obtain⟨u1,_,rfl,⟨c1,h1,h1'⟩,u2,_,rfl,⟨c2,h2,h2'⟩,rfl⟩:=ha;cases h1';cases h2';subst h1;subst h2;unfold S.strconv_FormatUint at hr;split at hr
 case isFalse=>cases hr
 rename_i hc;obtain⟨hb,h0,h3⟩:=hc;cases hr;dsimp only at hb h0 h3;subst hb;obtain⟨m,rfl⟩:∃m:Nat,n=(m:Int):=⟨n.toNat,(Int.toNat_of_nonneg h0).symm⟩
 rw[Int.toNat_natCast];have htab:Lib.TabIs Tryz.prog w "internal/strconv.uint64pow10" .u64 Lib.pow10Tab:=laid_var hl hP (by kernel_rfl);refine(fu_pub m (by omega) w htab).mono ?_
 rintro e w' ⟨rfl,k,os,rfl⟩
 exact⟨[_],rfl,belowGrowU _ _ _,fun M'=>⟨[_],rfl,fun _=>rfl,rfl⟩⟩
def ct_strings_Join:Ct:=⟨[PK.bo lT,PK.ro Kd.str],false,[oR Kd.str],S.strings_Join,[]⟩
theorem v_strings_Join:a0l Tryz.prog gl 133 ct_strings_Join:=by
 refine told_flat (enters_of Tryz.func133 (by kernel_rfl) (by kernel_rfl)) (fun _ _ _ _ _ _=>trivial) (fun w M0 W0 us x γ hl hW ha r hr=> ?_);obtain⟨xs,sep,q⟩:=x;obtain⟨u1,_,rfl,⟨c1,h1,h1'⟩,u2,_,rfl,⟨c2,h2,h2'⟩,rfl⟩:=ha;cases h2';subst h2;obtain⟨A,c,rfl,hlc,hel⟩:=h1';subst h1;unfold S.strings_Join at hr;split at hr
 case isFalse=>cases hr
 rename_i hc;obtain⟨hn,hj⟩:=hc;cases hr;dsimp only at hn hj
 by_cases h0:xs.length=0
 ·have:xs=[]:=List.eq_nil_of_length_eq_zero h0;subst this;refine(Tryz.strings_Join_none A c sep w).mono ?_
  rintro e w' ⟨rfl,rfl⟩
  exact⟨[_],rfl,Below.refl _ _,fun M'=>⟨[_],rfl,fun _=>rfl,rfl⟩⟩
 ·obtain⟨b,o,rfl,hcell⟩:=hel h0;have hcells:∀(j:Nat) x,xs[j]? =some x->w.cell? ⟨b,o+j,none⟩=some (.string x):=by
   intro j x hx;obtain⟨es,e1,e2⟩:=hcell j x hx;cases e1;have:=(e2 0 _ rfl).1;simpa [Kd.sz]using this
  have hbk:b<w.heap.size:=by
   have:=hcells 0 xs[0] (List.getElem?_eq_getElem (by omega));exact World.block_lt_of_cell? _ _ this
  refine(Tryz.strings_Join b o c xs sep w hcells hbk hn hlc hj).mono ?_
  rintro e w' ⟨rfl,hbl⟩
  exact⟨[_],rfl,hbl,fun M'=>⟨[_],rfl,fun _=>rfl,rfl⟩⟩
def ct_strings_Repeat:Ct:=⟨[PK.ro Kd.str,pI],false,[oR Kd.str],S.strings_Repeat,[]⟩
theorem v_strings_Repeat:a0l Tryz.prog gl 131 ct_strings_Repeat:=by
 refine told_flat (enters_of Tryz.func131 (by kernel_rfl) (by kernel_rfl)) (fun _ _ _ _ _ _=>trivial) (fun w M0 W0 us x γ hl hW ha r hr=> ?_);obtain⟨s,c,q⟩:=x;obtain⟨u1,_,rfl,⟨c1,h1,h1'⟩,u2,_,rfl,⟨c2,h2,h2'⟩,rfl⟩:=ha;cases h1';cases h2';subst h1;subst h2;unfold S.strings_Repeat at hr;split at hr
 case isFalse=>cases hr
 rename_i hc;obtain⟨g0,g1,g2⟩:=hc;dsimp only at g0 g1 g2 hr;cases hr;obtain⟨n,rfl⟩:∃n:Nat,c=(n:Int):=⟨c.toNat,(Int.toNat_of_nonneg g0).symm⟩
 have hm:s.size*n<=1000000*1000000:=Nat.mul_le_mul g2 (by omega);refine(Tryz.strings_Repeat s n w (by omega) (by omega)).mono ?_
 rintro e w' ⟨rfl,hb⟩
 exact⟨[_],rfl,hb,fun M'=>⟨[_],rfl,fun _=>rfl,rfl⟩⟩
def ct_slices_Reverse__string_string:Ct:=⟨[PK.mu Kd.str],true,[],S.a1a,[]⟩
theorem v_slices_Reverse__string_string:a0l Tryz.prog gl 132 ct_slices_Reverse__string_string:=VV mixed tdOk [] [(1,[(2,dI),(3,dI),(0,Sp.own (0) false Kd.str)])] P.slices_Reverse__string_string cN Tryz.func132 S.slices_Reverse__string_string_ok
def ct_i_nat_divSmall:Ct:=⟨[PK.bo lU,PK.ro aU],true,[oR lU,oR aU],S.i_nat_divSmall,[]⟩
theorem v_i_nat_divSmall:a0l Tryz.prog gl 129 ct_i_nat_divSmall:=VV mixed tdOk [] [(3,[(8,dI),(7,Sp.dat false (Kd.int IntKind.u64)),(0,Sp.dat true lU),(6,Sp.own (88) true aU),(1,Sp.dat false aU)])] P.i_nat_divSmall (a0b v_i_nat_trim cN) Tryz.func129 S.i_nat_divSmall_ok
def ct_i_nat_text:Ct:=⟨[PK.bo lU],false,[oR Kd.str],S.i_nat_text,[]⟩
theorem v_i_nat_text (hP:InP gl):a0l Tryz.prog gl 105 ct_i_nat_text:=VV mixed tdOk [] [(4,[(0,Sp.dat true lU),(3,Sp.own (80) true Kd.str)])] P.i_nat_text (a0b (v_strconv_FormatUint hP) (a0b v_strings_Join (a0b v_strings_Repeat (a0b v_slices_Reverse__string_string (a0b v_i_nat_divSmall cN))))) Tryz.func105 S.i_nat_text_ok
def ct_i_rat_text:Ct:=⟨[PK.bo KR],true,[oR Kd.str,oR Kd.bool],S.i_rat_text,[]⟩
theorem v_i_rat_text (hP:InP gl):a0l Tryz.prog gl 71 ct_i_rat_text:=VV mixed tdOk [] [] P.i_rat_text (a0b (v_i_nat_text hP) cN) Tryz.func71 S.i_rat_text_ok
def ct_i_told:Ct:=⟨[PK.bo KR],true,[oR Kd.str,oR Kd.bool],S.i_told,[]⟩
theorem v_i_told (hP:InP gl):a0l Tryz.prog gl 57 ct_i_told:=VV mixed tdOk [] [] P.i_told (a0b (v_i_rat_text hP) cN) Tryz.func57 S.i_told_ok
def ct_i_nat_cmp:Ct:=⟨[PK.bo lU,PK.bo lU],false,[oR aI],S.i_nat_cmp,[]⟩
theorem v_i_nat_cmp:a0l Tryz.prog gl 89 ct_i_nat_cmp:=VV mixed tdOk [] [(6,[(5,dI),(0,Sp.dat true lU),(1,Sp.dat true lU)])] P.i_nat_cmp cN Tryz.func89 S.i_nat_cmp_ok
def ct_i_nat_sub:Ct:=⟨[PK.bo lU,PK.bo lU],false,[oR lU],S.i_nat_sub,[]⟩
theorem v_i_nat_sub:a0l Tryz.prog gl 93 ct_i_nat_sub:=VV mixed tdOk [] [(3,[(14,dI),(13,dI),(0,Sp.dat true lU),(6,dI),(1,Sp.dat true lU),(5,Sp.own (88) true aU)])] P.i_nat_sub (a0b v_i_nat_trim cN) Tryz.func93 S.i_nat_sub_ok
def ct_i_nat_add:Ct:=⟨[PK.bo lU,PK.bo lU],false,[oR lU],S.i_nat_add,[]⟩
theorem v_i_nat_add:a0l Tryz.prog gl 92 ct_i_nat_add:=VV mixed tdOk [] [(5,[(21,dI),(20,dI),(6,Sp.dat false (Kd.int IntKind.u64)),(0,Sp.dat true lU),(1,Sp.dat true lU),(5,Sp.own (144) true aU)])] P.i_nat_add (a0b v_i_nat_trim cN) Tryz.func92 S.i_nat_add_ok
def ct_i_nat_mul:Ct:=⟨[PK.bo lU,PK.bo lU],false,[oR lU],S.i_nat_mul,[]⟩
theorem v_i_nat_mul:a0l Tryz.prog gl 90 ct_i_nat_mul:=VV mixed tdOk [] [(7,[(26,dI),(25,dI),(24,Sp.dat true lU),(8,Sp.dat false (Kd.int IntKind.u64)),(7,Sp.dat false aU),(5,Sp.own (128) true aU),(6,dI),(1,Sp.dat true lU),(19,dI),(18,dI),(17,Sp.dat true lU)]),(3,[(19,dI),(18,dI),(17,Sp.dat true lU),(1,Sp.dat true lU),(5,Sp.own (128) true aU)])] P.i_nat_mul (a0b v_i_nat_trim cN) Tryz.func90 S.i_nat_mul_ok
def ct_math_bits_LeadingZeros32:Ct:=⟨[PK.ro aU],false,[oR aI],S.math_bits_LeadingZeros32,[]⟩
theorem v_math_bits_LeadingZeros32:a0l Tryz.prog gl 143 ct_math_bits_LeadingZeros32:=by
 refine told_flat (enters_of Tryz.func143 (by kernel_rfl) (by kernel_rfl)) (fun _ _ _ _ _ _=>trivial) (fun w M0 W0 us x γ hl hW ha r hr=> ?_);obtain⟨n,q⟩:=x;obtain⟨u1,_,rfl,⟨c1,h1,h1'⟩,rfl⟩:=ha;cases h1';subst h1;unfold S.math_bits_LeadingZeros32 at hr;split at hr
 case isFalse=>cases hr
 rename_i hc;cases hr;refine(Tryz.bits_LeadingZeros32 n w hc.1 hc.2).mono ?_
 rintro e w' ⟨rfl,rfl⟩
 exact⟨[_],rfl,Below.refl _ _,fun M'=>⟨[_],rfl,fun _=>rfl,rfl⟩⟩
def ct_i_nat_shifted:Ct:=⟨[PK.bo lU,pI],false,[(false,[RC.own aU])],S.i_nat_shifted,[]⟩
theorem v_i_nat_shifted:a0l Tryz.prog gl 144 ct_i_nat_shifted:=VV mixed tdOk [] [(3,[(15,dI),(14,dI),(13,Sp.dat true lU),(1,dI),(5,Sp.own (96) true aU)])] P.i_nat_shifted cN Tryz.func144 S.i_nat_shifted_ok
def ct_i_takeAway:Ct:=⟨[PK.mu aU,PK.bo lU,PK.ro (Kd.int IntKind.u64)],false,rB,S.i_takeAway,[]⟩
theorem v_i_takeAway:a0l Tryz.prog gl 145 ct_i_takeAway:=VV mixed tdOk [] [(18,[(59,dI),(58,dI),(7,Sp.dat false (Kd.int IntKind.u64)),(0,Sp.own (0) false aU),(1,Sp.dat true lU)]),(3,[(14,dI),(13,dI),(1,Sp.dat true lU),(7,Sp.dat false (Kd.int IntKind.u64)),(2,Sp.dat false (Kd.int IntKind.u64)),(0,Sp.own (0) false aU),(8,dI)])] P.i_takeAway cN Tryz.func145 S.i_takeAway_ok
def ct_i_nat_div:Ct:=⟨[PK.ro lU,PK.ro lU],true,[oR lU,oR lU],S.i_nat_div,[]⟩
theorem trimN_snoc (xs:List Int) (x:Int):trimN (xs++[x])=if x=0 then trimN xs else xs.length+1:=by
 unfold trimN;rw[List.reverse_append]
 by_cases h:x=0
 ·simp [h]
 ·simp [h]
theorem trimN_le (xs:List Int):trimN xs<=xs.length:=by
 unfold trimN;have:=(List.dropWhile_sublist (fun x:Int=>x==0) (l:=xs.reverse)).length_le;simpa using this
def lenOfV:Value->Nat
 | .slice _ m _=>m
 |_=>0
set_option maxHeartbeats 800000 in
set_option maxRecDepth 100000 in
theorem trim_calls (b o real:Nat) (xs:List Int) (w:World) (hle:xs.length<=real) (hbig:xs.length<=1000000000000) (hc:∀(i:Nat) (x:Int),xs[i]? =some x->w.cell? ⟨b,o+i,none⟩=some (.int .u32 x)):
  Calls Tryz.prog 116 #[.slice (some ⟨b,o,none⟩) xs.length real] w fun e w'=>e= .returned (.slice (some ⟨b,o,none⟩) (trimN xs) real)/\w'=w:=by
 go_enter Tryz.func116,Tryz.ntmps116
 go_wp2
 go_loopw [0] (fun v wr=>∃m:Nat,m<=xs.length/\v= .slice (some ⟨b,o,none⟩) m real/\wr=w/\trimN (xs.take m)=trimN xs) (fun v _=>lenOfV v)
 case atStart=>exact⟨xs.length,Nat.le_refl _,rfl,rfl,by rw[List.take_length]⟩
 case round=>
  obtain⟨m,hm,rfl,rfl,ht⟩:=hrel
  by_cases h0:0<m
  ·obtain⟨k,rfl⟩:∃k,m=k+1:=⟨m - 1,by omega⟩
   have hx:xs[k]? =some xs[k]:=List.getElem?_eq_getElem (by omega);have hcx:=hc k _ hx;have hw:wrap64 (((k+1:Nat):Int) - 1)=(k:Int):=by
    have e:((k+1:Nat):Int) - 1=(k:Int):=by omega
    rw[e];exact IntWalk.wrap64_in _ (by omega)
   have ht':trimN (xs.take (k+1))=if xs[k]=0 then trimN (xs.take k)else k+1:=by
    rw[<-List.take_append_getElem (show k<xs.length by omega),trimN_snoc];have:(xs.take k).length=k:=by simp;omega
    rw[this]
   go_wp2
   ·have hz:(xs[k]==0)=true:=by assumption
    have hz':xs[k]=0:=by simpa using hz
    rw[if_pos hz']at ht';exact⟨⟨k,by omega,rfl,trivial,by rw[<-ht',ht]⟩,Nat.lt_succ_self k⟩
   ·have hz:(xs[k]==0)=false:=by assumption
    have hz':¬xs[k]=0:=by simpa using hz
    rw[if_neg hz']at ht';rw[<-ht,ht']
    go_ret
    exact⟨rfl,rfl⟩
  ·have h1:m=0:=by omega
   subst h1
   go_wp2
   have h2:trimN xs=0:=by rw[<-ht];rfl
   rw[h2]
   go_ret
   exact⟨rfl,rfl⟩
set_option maxHeartbeats 800000 in
set_option maxRecDepth 100000 in
theorem trim_calls0 (A:Option Addr) (real:Nat) (w:World):
  Calls Tryz.prog 116 #[.slice A 0 real] w fun e w'=>e= .returned (.slice A 0 real)/\w'=w:=by
 go_enter Tryz.func116,Tryz.ntmps116
 go_wp2
 refine wp_loop_rounds 1 ?_;rw[rounds_succ]
 go_wp2
 go_ret
 exact⟨rfl,rfl⟩
theorem shr_trim:ShrOk Tryz.prog 116 IntKind.u32 trimN:=by
 refine⟨enters_of Tryz.func116 (by kernel_rfl) (by kernel_rfl),fun w u xs A real hbig hsl hno hc=> ?_⟩;obtain⟨A',rfl,hle,hA⟩:=hsl;rcases Nat.eq_zero_or_pos real with h0|h0
 ·have h1:xs=[]:=List.eq_nil_of_length_eq_zero (by omega);subst h1;refine(trim_calls0 A' real w).mono ?_
  rintro e w' ⟨rfl,rfl⟩
  exact⟨rfl,Nat.le_refl _,_,rfl,rfl,A',rfl,Nat.zero_le _,fun h=>by omega⟩
 ·obtain⟨b,o,rfl,rfl⟩:=hA h0;refine(trim_calls b o real xs w hle hbig (hc b o rfl)).mono ?_
  rintro e w' ⟨rfl,rfl⟩
  have:=trimN_le xs;exact⟨rfl,this,_,rfl,rfl,_,rfl,by omega,fun _=>⟨b,o,rfl,rfl⟩⟩
theorem v_i_nat_div:a0l Tryz.prog gl 118 ct_i_nat_div:=VV mixed tdOk [] [(26,[(148,dI),(147,dI),(9,Sp.own (400) true aU),(8,dI),(13,Sp.own (592) true aU)]),(17,[(17,Sp.dat false (Kd.int IntKind.u64)),(12,Sp.dat false (Kd.int IntKind.u64)),(18,Sp.dat false (Kd.int IntKind.u64)),(9,Sp.own (400) true aU),(15,dI),(11,Sp.dat false (Kd.int IntKind.u64)),(14,dI),(10,Sp.dat false lU),(13,Sp.own (592) true aU),(8,dI)]),(12,[(14,dI),(10,Sp.dat false lU),(9,Sp.own (400) true aU),(11,Sp.dat false (Kd.int IntKind.u64)),(12,Sp.dat false (Kd.int IntKind.u64)),(13,Sp.own (592) true aU),(8,dI)])] P.i_nat_div (a0b v_math_bits_LeadingZeros32 (a0b v_i_nat_trim (a0b v_i_nat_cmp (a0b v_i_nat_divSmall (a0b v_i_nat_shifted (a0b v_i_takeAway (ctsShr (s:=(IntKind.u32,trimN)) shr_trim))))))) Tryz.func118 S.i_nat_div_ok
def ct_i_nat_small:Ct:=⟨[PK.bo lU],true,[oR (Kd.int IntKind.u64),oR Kd.bool],S.i_nat_small,[]⟩
theorem v_i_nat_small:a0l Tryz.prog gl 142 ct_i_nat_small:=VV mixed tdOk [] [(3,[(5,dI),(0,Sp.dat true lU),(4,Sp.dat false (Kd.int IntKind.u64))])] P.i_nat_small cN Tryz.func142 S.i_nat_small_ok
def ct_i_nat_gcd:Ct:=⟨[PK.ro lU,PK.ro lU],false,[oR lU],S.i_nat_gcd,[]⟩
theorem v_i_nat_gcd:a0l Tryz.prog gl 117 ct_i_nat_gcd:=VV mixed tdOk [] [(5,[(7,Sp.dat false (Kd.int IntKind.u64)),(5,Sp.dat false (Kd.int IntKind.u64))]),(1,[(1,Sp.dat false lU),(0,Sp.dat false lU)])] P.i_nat_gcd (a0b v_i_natOf (a0b v_i_nat_small (a0b v_i_nat_div cN))) Tryz.func117 S.i_nat_gcd_ok
def ct_i_lowest:Ct:=⟨[PK.ro Kd.bool,PK.ro lU,PK.ro lU],false,[(true,[RC.ro KR])],S.i_lowest,[]⟩
theorem v_i_lowest:a0l Tryz.prog gl 91 ct_i_lowest:=VV mixed tdOk [] [] P.i_lowest (a0b v_i_natOf (a0b v_i_nat_div (a0b v_i_nat_gcd cN))) Tryz.func91 S.i_lowest_ok
def ct_i_rat_sign:Ct:=⟨[PK.bo KR],false,[oR aI],S.a0v,[]⟩
theorem v_i_rat_sign:a0l Tryz.prog gl 88 ct_i_rat_sign:=VV mixed tdOk [] [] P.i_rat_sign cN Tryz.func88 S.i_rat_sign_ok
def ct_i_rat_add:Ct:=⟨[pR,pR],false,[(true,[RC.ro KR])],S.a0x,[]⟩
theorem v_i_rat_add:a0l Tryz.prog gl 54 ct_i_rat_add:=VV mixed tdOk [] [] P.i_rat_add (a0b v_i_nat_cmp (a0b v_i_nat_sub (a0b v_i_nat_add (a0b v_i_nat_mul (a0b v_i_lowest (a0b v_i_rat_sign cN)))))) Tryz.func54 S.i_rat_add_ok
def ct_i_rat_mul:Ct:=⟨[pR,pR],false,[(true,[RC.ro KR])],S.i_rat_mul,[]⟩
theorem v_i_rat_mul:a0l Tryz.prog gl 55 ct_i_rat_mul:=VV mixed tdOk [] [] P.i_rat_mul (a0b v_i_nat_mul (a0b v_i_lowest (a0b v_i_whole (a0b v_i_rat_sign cN)))) Tryz.func55 S.i_rat_mul_ok
def ct_i_rat_cmp:Ct:=⟨[PK.bo KR,PK.bo KR],false,[oR aI],S.i_rat_cmp,[]⟩
theorem v_i_rat_cmp:a0l Tryz.prog gl 74 ct_i_rat_cmp:=VV mixed tdOk [] [] P.i_rat_cmp (a0b v_i_nat_cmp (a0b v_i_nat_mul (a0b v_i_rat_sign cN))) Tryz.func74 S.i_rat_cmp_ok
def ct_i_rat_isOne:Ct:=⟨[PK.bo KR],false,rB,S.i_rat_isOne,[]⟩
theorem v_i_rat_isOne:a0l Tryz.prog gl 41 ct_i_rat_isOne:=VV mixed tdOk [] [] P.i_rat_isOne (a0b v_i_whole (a0b v_i_rat_cmp cN)) Tryz.func41 S.i_rat_isOne_ok
def ct_strings_Cut:Ct:=⟨[PK.ro Kd.str,PK.ro Kd.str],true,[oR Kd.str,oR Kd.str,oR Kd.bool],S.strings_Cut,[]⟩
theorem v_strings_Cut (hM:InM gl):a0l Tryz.prog gl 152 ct_strings_Cut:=by
 refine told_flat (enters_of Tryz.func152 (by kernel_rfl) (by kernel_rfl)) (fun _ _ _ _ _ _=>trivial) (fun w M0 W0 us x γ hl hW ha r hr=> ?_);obtain⟨s,b,q⟩:=x;obtain⟨u1,_,rfl,⟨c1,h1,h1'⟩,u2,_,rfl,⟨c2,h2,h2'⟩,rfl⟩:=ha;cases h1';cases h2';subst h1;subst h2;unfold S.strings_Cut at hr;split at hr
 case isFalse=>cases hr
 rename_i hc;cases hr;obtain⟨m,hm⟩:=hM;refine(Tryz.strings_Cut s b m w hc (laid_cell hl hm)).mono ?_
 rintro e w' ⟨rfl,n,rfl⟩
 exact⟨[_,_,_],rfl,⟨rfl,rfl,rfl,Nat.le_refl _,fun _ _=>rfl⟩,fun M'=>⟨[_],[_,_],rfl,fun _=>rfl,rfl,[_],[_],rfl,fun _=>rfl,rfl,[_],rfl,fun _=>rfl,rfl⟩⟩
def ct_strings_CutPrefix:Ct:=⟨[PK.ro Kd.str,PK.ro Kd.str],true,[oR Kd.str,oR Kd.bool],S.strings_CutPrefix,[]⟩
theorem v_strings_CutPrefix:a0l Tryz.prog gl 153 ct_strings_CutPrefix:=by
 refine told_flat (enters_of Tryz.func153 (by kernel_rfl) (by kernel_rfl)) (fun _ _ _ _ _ _=>trivial) (fun w M0 W0 us x γ hl hW ha r hr=> ?_);obtain⟨s,b,q⟩:=x;obtain⟨u1,_,rfl,⟨c1,h1,h1'⟩,u2,_,rfl,⟨c2,h2,h2'⟩,rfl⟩:=ha;cases h1';cases h2';subst h1;subst h2;cases hr;refine(Tryz.strings_CutPrefix s b w).mono ?_
 rintro e w' ⟨rfl,rfl⟩
 exact⟨[_,_],rfl,Below.refl _ _,fun M'=>⟨[_],[_],rfl,fun _=>rfl,rfl,[_],rfl,fun _=>rfl,rfl⟩⟩
def ct_strconv_ParseUint:Ct:=⟨[PK.ro Kd.str,pI,pI],true,[oR (Kd.int IntKind.u64),oR Kd.er],S.strconv_ParseUint,[]⟩
theorem v_strconv_ParseUint (hR:InR gl) (hS:InS gl):a0l Tryz.prog gl 165 ct_strconv_ParseUint:=by
 refine told_flat (enters_of Tryz.func165 (by kernel_rfl) (by kernel_rfl)) (fun _ _ _ _ _ _=>trivial) (fun w M0 W0 us x γ hl hW ha r hr=> ?_);obtain⟨s,b,z,q⟩:=x;obtain⟨u1,_,rfl,⟨c1,h1,h1'⟩,u2,_,rfl,⟨c2,h2,h2'⟩,u3,_,rfl,⟨c3,h3,h3'⟩,rfl⟩:=ha;cases h1';cases h2';cases h3';subst h1;subst h2;subst h3;unfold S.strconv_ParseUint at hr;split at hr
 case isFalse=>cases hr
 rename_i hc;obtain⟨hb,hz,hs⟩:=hc;dsimp only at hb hz hs hr;subst hb;subst hz;obtain⟨t1,p1,hS⟩:=hS;obtain⟨t2,p2,hR⟩:=hR;have v1:w.var? Tryz.prog "strconv.ErrSyntax" =some #[.iface t1 p1]:=laid_var hl hS (by kernel_rfl);have v2:w.var? Tryz.prog "strconv.ErrRange" =some #[.iface t2 p2]:=laid_var hl hR (by kernel_rfl);split at hr
 ·rename_i v hv;cases hr;refine(Tryz.strconv_ParseUint_10_at64_ok s (by omega) v hv w).mono ?_
  rintro e w' ⟨rfl,hw⟩
  refine⟨[_,_],rfl,?_,fun M'=>⟨[_],[_],rfl,fun _=>rfl,rfl,[_],rfl,fun _=>rfl,_,rfl,rfl,rfl⟩⟩;rcases hw with rfl|⟨t,rfl⟩
  ·exact Below.refl _ _
  ·exact⟨rfl,rfl,rfl,by rw[Lib.bytesWorld_size];omega,fun k hk=>Lib.bytesWorld_at_old _ _ _ k (by omega)⟩
 ·rename_i hv;cases hr;refine(Tryz.strconv_ParseUint_10_at64_syntax_var s hs hv t1 p1 w v1).mono ?_
  rintro e w' ⟨N,rfl,_,_,hbl⟩
  exact⟨[_,_],rfl,hbl,fun M'=>⟨[_],[_],rfl,fun _=>rfl,rfl,[_],rfl,fun _=>rfl,_,rfl,rfl,_,_,rfl⟩⟩
 ·rename_i hv;cases hr;refine(Tryz.strconv_ParseUint_10_at64_range_var s hs hv t2 p2 w v2).mono ?_
  rintro e w' ⟨N,rfl,_,_,hbl⟩
  exact⟨[_,_],rfl,hbl,fun M'=>⟨[_],[_],rfl,fun _=>rfl,rfl,[_],rfl,fun _=>rfl,_,rfl,rfl,_,_,rfl⟩⟩
def ct_i_readNat:Ct:=⟨[PK.ro Kd.str],true,[oR lU,oR Kd.bool],S.i_readNat,[]⟩
theorem v_i_readNat (hR:InR gl) (hS:InS gl):a0l Tryz.prog gl 154 ct_i_readNat:=VV mixed tdOk [] [(17,[(59,dI),(58,dI),(9,Sp.dat false (Kd.int IntKind.u64)),(4,Sp.dat false lU),(7,Sp.dat false (Kd.int IntKind.u64)),(0,Sp.dat false Kd.str),(6,dI)]),(10,[(0,Sp.dat false Kd.str),(4,Sp.dat false lU)]),(5,[(30,dI),(29,dI),(0,Sp.dat false Kd.str),(4,Sp.dat false lU)])] P.i_readNat (a0b (v_strconv_ParseUint hR hS) (a0b v_i_natOf (a0b v_i_nat_add (a0b v_i_nat_mul cN)))) Tryz.func154 S.i_readNat_ok
def ct_i_readRat:Ct:=⟨[PK.ro Kd.str],true,[(true,[RC.ro KR]),oR Kd.bool],S.i_readRat,[]⟩
theorem v_i_readRat (hM:InM gl) (hR:InR gl) (hS:InS gl):a0l Tryz.prog gl 140 ct_i_readRat:=VV mixed tdOk [] [] P.i_readRat (a0b (v_strings_Cut hM) (a0b v_strings_CutPrefix (a0b v_i_natOf (a0b v_i_nat_cmp (a0b v_i_nat_gcd (a0b (v_i_readNat hR hS) cN)))))) Tryz.func140 S.i_readRat_ok
def ct_i_rats:Ct:=⟨[PK.bo lT],true,[oR lR,oR Kd.bool],S.i_rats,[]⟩
theorem v_i_rats (hM:InM gl) (hR:InR gl) (hS:InS gl):a0l Tryz.prog gl 112 ct_i_rats:=VV mixed tdOk [] [(5,[(15,dI),(14,dI),(13,Sp.dat true lT),(4,Sp.own (96) true KR)])] P.i_rats (a0b (v_i_readRat hM hR hS) cN) Tryz.func112 S.i_rats_ok
def ct_i_sum:Ct:=⟨[PK.ro lR],false,[(true,[RC.ro KR])],S.i_sum,[]⟩
theorem v_i_sum:a0l Tryz.prog gl 115 ct_i_sum:=VV mixed tdOk [] [(3,[(9,dI),(8,dI),(7,Sp.dat false lR),(3,Sp.var (24) KR),(2,Sp.var (16) KR)])] P.i_sum (a0b v_i_whole (a0b v_i_rat_add cN)) Tryz.func115 S.i_sum_ok
def ct_i_isMinus:Ct:=⟨[PK.bo KR],false,rB,S.i_isMinus,[]⟩
theorem v_i_isMinus:a0l Tryz.prog gl 114 ct_i_isMinus:=VV mixed tdOk [] [] P.i_isMinus (a0b v_i_rat_sign cN) Tryz.func114 S.i_isMinus_ok
def ct_slices_IndexFunc__i_rat_i_rat:Ct:=⟨[PK.bo lR,PK.fn (114)],false,[oR aI],S.slices_IndexFunc__i_rat_i_rat,[]⟩
theorem v_slices_IndexFunc__i_rat_i_rat:a0l Tryz.prog gl 141 ct_slices_IndexFunc__i_rat_i_rat:=VV mixed tdOk [] [(2,[(8,dI),(7,dI),(1,Sp.fn (114)),(0,Sp.dat true lR)])] P.slices_IndexFunc__i_rat_i_rat (a0b v_i_isMinus cN) Tryz.func141 S.slices_IndexFunc__i_rat_i_rat_ok
def ct_slices_ContainsFunc__i_rat_i_rat:Ct:=⟨[PK.bo lR,PK.fn (114)],false,rB,S.a0s,[]⟩
theorem v_slices_ContainsFunc__i_rat_i_rat:a0l Tryz.prog gl 113 ct_slices_ContainsFunc__i_rat_i_rat:=VV mixed tdOk [] [] P.slices_ContainsFunc__i_rat_i_rat (a0b v_i_isMinus (a0b v_slices_IndexFunc__i_rat_i_rat cN)) Tryz.func113 S.slices_ContainsFunc__i_rat_i_rat_ok
def ct_i_summ:Ct:=⟨[PK.mu KR],false,[(true,[RC.ro KR])],S.i_summ,[]⟩
theorem v_i_summ:a0l Tryz.prog gl 115 ct_i_summ:=VV mixed tdOk [] [(3,[(9,dI),(8,dI),(7,Sp.own (0) false KR),(3,Sp.var (24) KR),(2,Sp.var (16) KR)])] P.i_summ (a0b v_i_whole (a0b v_i_rat_add cN)) Tryz.func115 S.i_summ_ok
def ct_i_weightsOf:Ct:=⟨[PK.bo lT],true,[oR lR,oR Kd.bool],S.i_weightsOf,[]⟩
theorem v_i_weightsOf (hM:InM gl) (hR:InR gl) (hS:InS gl):a0l Tryz.prog gl 84 ct_i_weightsOf:=VV mixed tdOk [] [] P.i_weightsOf (a0b v_i_rat_isOne (a0b (v_i_rats hM hR hS) (a0b v_i_sum (a0b v_i_isMinus (a0b v_slices_ContainsFunc__i_rat_i_rat (a0b v_i_summ cN)))))) Tryz.func84 S.i_weightsOf_ok
def ct_i_chainOf:Ct:=⟨[PK.bo (Kd.st mT)],true,[oR mR,oR Kd.bool],S.i_chainOf,[]⟩
theorem v_i_chainOf (hM:InM gl) (hR:InR gl) (hS:InS gl):a0l Tryz.prog gl 51 ct_i_chainOf:=VV mixed tdOk [] [(5,[(23,dI),(22,dI),(21,Sp.dat true mT),(1,Sp.varb (8) mT),(4,Sp.own (152) true lR)])] P.i_chainOf (a0b (v_i_weightsOf hM hR hS) cN) Tryz.func51 S.i_chainOf_ok
def ct_i_reach:Ct:=⟨[PK.bo mR,pI],false,[(false,[RC.own Kd.bool])],S.i_reach,[]⟩
theorem v_i_reach:a0l Tryz.prog gl 56 ct_i_reach:=VV mixed tdOk [] [(7,[(29,dI),(28,dI),(27,Sp.dat true lR),(5,Sp.own (88) true Kd.bool),(6,Sp.own (128) true aI),(0,Sp.dat true mR)]),(4,[(6,Sp.own (128) true aI),(0,Sp.dat true mR),(5,Sp.own (88) true Kd.bool)])] P.i_reach (a0b v_i_rat_sign cN) Tryz.func56 S.i_reach_ok
def ct_i_in:Ct:=⟨[pI,pI,pI],false,rB,S.i_in,[]⟩
theorem v_i_in:a0l Tryz.prog gl 85 ct_i_in:=VV mixed tdOk [] [] P.i_in cN Tryz.func85 S.i_in_ok
def ct_i_isState:Ct:=⟨[PK.bo mR,pI],false,rB,S.i_isState,[]⟩
theorem v_i_isState:a0l Tryz.prog gl 52 ct_i_isState:=VV mixed tdOk [] [] P.i_isState (a0b v_i_in cN) Tryz.func52 S.i_isState_ok
def ct_math_bits_Mul64:Ct:=⟨[PK.ro (Kd.int IntKind.u64),PK.ro (Kd.int IntKind.u64)],true,[oR (Kd.int IntKind.u64),oR (Kd.int IntKind.u64)],S.math_bits_Mul64,[]⟩
theorem v_math_bits_Mul64:a0l Tryz.prog gl 124 ct_math_bits_Mul64:=VV mixed tdOk [] [] P.math_bits_Mul64 cN Tryz.func124 S.math_bits_Mul64_ok
def ct_math_bits_Mul:Ct:=⟨[PK.ro (Kd.int IntKind.u64),PK.ro (Kd.int IntKind.u64)],true,[oR (Kd.int IntKind.u64),oR (Kd.int IntKind.u64)],S.math_bits_Mul,[]⟩
theorem v_math_bits_Mul:a0l Tryz.prog gl 96 ct_math_bits_Mul:=VV mixed tdOk [] [] P.math_bits_Mul (a0b v_math_bits_Mul64 cN) Tryz.func96 S.math_bits_Mul_ok
def ct_slices_Repeat__i_rat_i_rat:Ct:=⟨[PK.ro lR,pI],false,[(false,[RC.own KR])],S.a0n,[]⟩
theorem v_slices_Repeat__i_rat_i_rat:a0l Tryz.prog gl 60 ct_slices_Repeat__i_rat_i_rat:=VV mixed tdOk [] [(8,[(8,dI),(7,Sp.own (240) true KR)])] PP.slices_Repeat__i_rat_i_rat (a0b v_math_bits_Mul cN) Tryz.func60 (fun x r h=>(S.slices_Repeat__i_rat_i_rat_ok x r h).imp fun k hk=>(PP.slices_Repeat__i_rat_i_rat_eq k x).trans hk)
def ct_i_rat_minus:Ct:=⟨[pR],false,[(true,[RC.ro KR])],S.i_rat_minus,[]⟩
theorem v_i_rat_minus:a0l Tryz.prog gl 100 ct_i_rat_minus:=VV mixed tdOk [] [] P.i_rat_minus cN Tryz.func100 S.i_rat_minus_ok
def ct_i_lessOne:Ct:=⟨[PK.ro mR,PK.bo lI,PK.ro Kd.bool],false,[(false,[RC.rows KR])],S.i_lessOne,[]⟩
theorem v_i_lessOne:a0l Tryz.prog gl 63 ct_i_lessOne:=VV mixed tdOk [1000014,1000058] [(7,[(24,dI),(23,dI),(22,Sp.dat true lI),(0,Sp.dat false mR),(9,dI),(2,Sp.dat false Kd.bool),(10,Sp.own (168) true KR),(7,Sp.rows (112) true KR),(17,dI),(16,dI),(15,Sp.dat true lI),(1,Sp.dat true lI)]),(3,[(17,dI),(16,dI),(15,Sp.dat true lI),(1,Sp.dat true lI),(0,Sp.dat false mR),(2,Sp.dat false Kd.bool),(7,Sp.rows (112) true KR)])] P.i_lessOne (a0b v_i_whole (a0b v_i_rat_minus (a0b v_i_rat_add cN))) Tryz.func63 S.i_lessOne_ok
def ct_i_rat_sub:Ct:=⟨[pR,pR],false,[(true,[RC.ro KR])],S.i_rat_sub,[]⟩
theorem v_i_rat_sub:a0l Tryz.prog gl 99 ct_i_rat_sub:=VV mixed tdOk [] [] P.i_rat_sub (a0b v_i_rat_minus (a0b v_i_rat_add cN)) Tryz.func99 S.i_rat_sub_ok
def ct_i_rat_over:Ct:=⟨[pR,pR],false,[(true,[RC.ro KR])],S.i_rat_over,[]⟩
theorem v_i_rat_over:a0l Tryz.prog gl 98 ct_i_rat_over:=VV mixed tdOk [] [] P.i_rat_over (a0b v_i_rat_mul cN) Tryz.func98 S.i_rat_over_ok
def ct_i_solve:Ct:=⟨[PK.mr KR,PK.mu KR],true,[(false,[RC.al (1) KR]),oR Kd.bool],S.i_solve,[]⟩
theorem v_i_solve:a0l Tryz.prog gl 62 ct_i_solve:=VV mixed tdOk [] [(26,[(13,dI),(6,dI),(1,Sp.own (8) false KR),(12,dI),(0,Sp.rows (0) false KR)]),(23,[(12,dI),(6,dI),(1,Sp.own (8) false KR),(0,Sp.rows (0) false KR)]),(17,[(11,dI),(6,dI),(0,Sp.rows (0) false KR),(9,dI),(10,Sp.var (80) KR),(7,dI),(1,Sp.own (8) false KR),(17,dI),(16,dI)]),(12,[(9,dI),(6,dI),(0,Sp.rows (0) false KR),(7,dI),(1,Sp.own (8) false KR),(17,dI),(16,dI)]),(6,[(8,dI),(6,dI),(0,Sp.rows (0) false KR),(7,dI),(1,Sp.own (8) false KR),(17,dI),(16,dI)]),(3,[(17,dI),(16,dI),(6,dI),(0,Sp.rows (0) false KR),(1,Sp.own (8) false KR)])] P.i_solve (a0b v_i_rat_sign (a0b v_i_rat_sub (a0b v_i_rat_mul (a0b v_i_rat_over cN)))) Tryz.func62 S.i_solve_ok
def ct_i_hits:Ct:=⟨[PK.ro mR,PK.bo (Kd.sl Kd.bool)],false,[oR lR],S.i_hits,[]⟩
theorem v_i_hits:a0l Tryz.prog gl 34 ct_i_hits:=VV mixed tdOk [] [(21,[(93,dI),(92,dI),(91,dL),(5,Sp.own (168) true KR),(13,Sp.dat false lR)]),(10,[(43,dI),(42,dI),(10,Sp.dat false Kd.bool),(9,Sp.dat false (Kd.sl Kd.bool)),(1,Sp.dat true (Kd.sl Kd.bool)),(11,Sp.var (88) KR),(0,Sp.dat false mR),(8,dI),(6,Sp.own (176) true aI),(7,Sp.own (184) true KR),(26,dI),(25,dI),(5,Sp.own (168) true KR)]),(3,[(26,dI),(25,dI),(1,Sp.dat true (Kd.sl Kd.bool)),(5,Sp.own (168) true KR),(0,Sp.dat false mR),(6,Sp.own (176) true aI),(7,Sp.own (184) true KR)])] P.i_hits (a0b v_slices_Repeat__i_rat_i_rat (a0b v_i_whole (a0b v_i_rat_add (a0b v_i_reach (a0b v_i_lessOne (a0b v_i_solve cN)))))) Tryz.func34 S.i_hits_ok
def ct_i_hitTimes:Ct:=⟨[PK.ro mR,PK.bo lI],false,[oR lR],S.i_hitTimes,[]⟩
theorem v_i_hitTimes:a0l Tryz.prog gl 42 ct_i_hitTimes:=VV mixed tdOk [] [(4,[(29,dI),(28,dI),(27,Sp.dat true lI),(5,Sp.own (112) true KR),(6,Sp.dat false lR)])] P.i_hitTimes (a0b v_slices_Repeat__i_rat_i_rat (a0b v_i_whole (a0b v_i_lessOne (a0b v_i_solve cN)))) Tryz.func42 S.i_hitTimes_ok
def ct_i_ReturnTime:Ct:=⟨[PK.bo (Kd.st mT),pI],true,[oR Kd.str,oR Kd.bool],S.i_ReturnTime,[]⟩
theorem v_i_ReturnTime (hM:InM gl) (hP:InP gl) (hR:InR gl) (hS:InS gl):a0l Tryz.prog gl 22 ct_i_ReturnTime:=VV mixed tdOk [] [(23,[(97,dI),(96,dI),(95,Sp.dat false lR),(16,Sp.var (128) KR),(17,Sp.dat false lR)]),(16,[(70,dI),(69,dI),(68,Sp.dat false (Kd.sl Kd.bool)),(8,Sp.own (280) true Kd.bool),(13,Sp.own (520) true aI),(6,Sp.dat false mR),(1,dI)]),(8,[(48,dI),(47,dI),(46,Sp.dat false lR),(9,Sp.var (72) KR),(10,Sp.dat false lR),(6,Sp.dat false mR),(1,dI),(8,Sp.own (280) true Kd.bool)])] P.i_ReturnTime (a0b v_i_whole (a0b (v_i_told hP) (a0b v_i_rat_add (a0b v_i_rat_mul (a0b v_i_rat_isOne (a0b (v_i_chainOf hM hR hS) (a0b v_i_reach (a0b v_i_isState (a0b v_i_hits (a0b v_i_hitTimes cN)))))))))) Tryz.func22 S.i_ReturnTime_ok
def ct_l_FnExactReturnTime:Ct:=⟨[PK.bo (Kd.st mT),pI],false,rB,S.l_FnExactReturnTime,[]⟩
theorem v_l_FnExactReturnTime (hM:InM gl) (hP:InP gl) (hR:InR gl) (hS:InS gl):a0l Tryz.prog gl 5 ct_l_FnExactReturnTime:=VV mixed tdOk [] [] P.l_FnExactReturnTime (a0b v_l_szChain (a0b v_l_toChain (a0b v_l_intactChain (a0b v_s_ReturnTime (a0b (v_i_ReturnTime hM hP hR hS) cN))))) Tryz.func5 S.l_FnExactReturnTime_ok
end Go.Cm.LnReturnTime
end
