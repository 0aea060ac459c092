import Derived.Test.YtdpljomfkoojnaaGreatDoorPlIsReversible
import Derived.Test.YtdpljomfkoojnaaGreatDoorChecked
import Derived.Test.YtdpljomfkoojnaaGreatDoorL4zShelf
import Derived.WalkKit
import Derived.BigCall
import Derived.BigGuard
import Derived.Lib.ItoaMem
import Derived.Lib.AppendIntMem
set_option linter.unusedVariables false
set_option maxRecDepth 100000
noncomputable section
namespace Go.Cm.LnIsReversible
open Go.RowKit Go.Proofs
abbrev oR (k:Kd):RK:=(false,[RC.ro k])
abbrev KR:Kd:=Kd.st (Kd.pair Kd.bool (Kd.pair (Kd.sl (Kd.int .u32)) (Kd.sl (Kd.int .u32))))
abbrev KS:Kd:=Kd.st (Kd.pair Kd.bool (Kd.pair (Kd.sl (Kd.int .i64)) (Kd.sl (Kd.int .i64))))
abbrev aI:=Kd.int .i64
abbrev aU:=Kd.int .u32
abbrev lI:=Kd.sl aI
abbrev lU:=Kd.sl aU
abbrev lR:=Kd.sl KR
abbrev lS:=Kd.sl KS
abbrev mR:=Kd.sl lR
abbrev mS:=Kd.sl lS
abbrev lT:=Kd.sl Kd.str
abbrev mT:=Kd.sl lT
abbrev dI:=Sp.dat false aI
abbrev dL:=Sp.dat false lI
abbrev pR:=PK.ro KR
abbrev pS:=PK.ro KS
abbrev pI:=PK.ro aI
abbrev rB:List RK:=[(false,[.ro .bool])]
variable {gl:List (Nat×List Value)}
def td:List (Nat×Td):=[(2,⟨Kd.int IntKind.i64,8,false,0,[]⟩),(3,⟨Kd.int IntKind.i64,8,false,0,[]⟩),(4,⟨Kd.bool,1,false,0,[]⟩),(5,⟨Kd.int IntKind.u8,1,false,0,[]⟩),(9,⟨Kd.str,16,false,0,[]⟩),(20,⟨Kd.er,16,false,0,[]⟩),(22,⟨Kd.sl lT,24,false,36,[]⟩),(24,⟨Kd.st mT,24,true,0,[(0,22)]⟩),(26,⟨Kd.sl aI,24,false,2,[]⟩),(29,⟨Kd.st mT,24,true,0,[(0,22)]⟩),(36,⟨Kd.sl Kd.str,24,false,9,[]⟩),(69,⟨Kd.sl lS,24,false,86,[]⟩),(71,⟨Kd.st mS,24,true,0,[(0,69)]⟩),(74,⟨Kd.pt (Kd.st mT),8,false,0,[]⟩),(77,⟨Kd.pt (Kd.st mS),8,false,0,[]⟩),(79,⟨Kd.sl lR,24,false,97,[]⟩),(82,⟨Kd.sl Kd.bool,24,false,4,[]⟩),(86,⟨Kd.sl KS,24,false,92,[]⟩),(92,⟨KS,56,true,0,[(0,4),(1,26),(2,26)]⟩),(97,⟨Kd.sl KR,24,false,104,[]⟩),(102,⟨Kd.sl aU,24,false,209,[]⟩),(104,⟨KR,56,true,0,[(0,4),(1,102),(2,102)]⟩),(166,⟨Kd.sl (Kd.sl Kd.bool),24,false,82,[]⟩),(172,⟨Kd.int IntKind.u64,8,false,0,[]⟩),(194,⟨Kd.int IntKind.u64,8,false,0,[]⟩),(199,⟨Kd.sl aI,24,false,3,[]⟩),(209,⟨Kd.int IntKind.u32,4,false,0,[]⟩),(224,⟨Kd.er,16,false,0,[]⟩)]
theorem tdOk:TdsOk ⟨Tryz.prog,td,[],[],[]⟩ Tryz.prog:=tdsCons (tdN Tryz.underlying2) (tdsCons (tdN Tryz.underlying3) (tdsCons (tdN Tryz.underlying4) (tdsCons (tdN Tryz.underlying5) (tdsCons (tdN Tryz.underlying9) (tdsCons (tdN ⟨_,Tryz.underlying20⟩) (tdsCons (tdN Tryz.underlying22) (tdsCons (tdN ⟨_,Tryz.underlying24,by kernel_rfl,by kernel_rfl⟩) (tdsCons (tdN Tryz.underlying26) (tdsCons (tdN ⟨_,Tryz.underlying29,by kernel_rfl,by kernel_rfl⟩) (tdsCons (tdN Tryz.underlying36) (tdsCons (tdN Tryz.underlying69) (tdsCons (tdN ⟨_,Tryz.underlying71,by kernel_rfl,by kernel_rfl⟩) (tdsCons (.of (by kernel_rfl) (.inl rfl) rfl ⟨_,Tryz.underlying74⟩) (tdsCons (.of (by kernel_rfl) (.inl rfl) rfl ⟨_,Tryz.underlying77⟩) (tdsCons (tdN Tryz.underlying79) (tdsCons (tdN Tryz.underlying82) (tdsCons (tdN Tryz.underlying86) (tdsCons (tdN ⟨_,Tryz.underlying92,by kernel_rfl,by kernel_rfl⟩) (tdsCons (tdN Tryz.underlying97) (tdsCons (tdN Tryz.underlying102) (tdsCons (tdN ⟨_,Tryz.underlying104,by kernel_rfl,by kernel_rfl⟩) (tdsCons (tdN Tryz.underlying166) (tdsCons (tdN Tryz.underlying172) (tdsCons (tdN Tryz.underlying194) (tdsCons (tdN Tryz.underlying199) (tdsCons (tdN Tryz.underlying209) (tdsCons (tdN ⟨_,Tryz.underlying224⟩) (tdsNil _ _ _ _))))))))))))))))))))))))))))
theorem mixed:Tryz.prog.follows .mixedOrders=true:=by kernel_rfl
def InM (gl:List (Nat×List Value)):Prop:=∃m,(0,[Value.int .i64 m])∈gl
def InS (gl:List (Nat×List Value)):Prop:=∃t p,(1,[Value.iface t p])∈gl
def InR (gl:List (Nat×List Value)):Prop:=∃t p,(2,[Value.iface t p])∈gl
def ct_l_szStringS:Ct:=⟨[PK.bo lT,pI],false,[oR aI],S.l_szStringS,[]⟩
theorem v_l_szStringS:Valid Tryz.prog gl 24 ct_l_szStringS:=VV mixed tdOk [] [(5,[(5,dI),(0,Sp.dat true lT),(1,dI)])] P.l_szStringS cN Tryz.func24 S.l_szStringS_ok
def ct_l_szStringSS:Ct:=⟨[PK.bo mT,pI],false,[oR aI],S.l_szStringSS,[]⟩
theorem v_l_szStringSS:Valid Tryz.prog gl 60 ct_l_szStringSS:=VV mixed tdOk [] [(5,[(5,dI),(0,Sp.dat true mT),(1,dI)])] P.l_szStringSS (ctsCons v_l_szStringS cN) Tryz.func60 S.l_szStringSS_ok
def ct_l_szChain:Ct:=⟨[PK.bo (Kd.st mT),pI],false,[oR aI],S.l_szChain,[]⟩
theorem v_l_szChain:Valid Tryz.prog gl 15 ct_l_szChain:=VV mixed tdOk [] [] P.l_szChain (ctsCons v_l_szStringSS cN) Tryz.func15 S.l_szChain_ok
def ct_l_roomBehind:Ct:=⟨[pI],false,[oR aI],S.l_roomBehind,[]⟩
theorem v_l_roomBehind:Valid Tryz.prog gl 74 ct_l_roomBehind:=VV mixed tdOk [] [] P.l_roomBehind cN Tryz.func74 S.l_roomBehind_ok
def ct_l_toStringS:Ct:=⟨[PK.bo lT,PK.ro Kd.bool],false,[oR (Kd.sv Kd.str)],S.l_toStringS,[]⟩
theorem v_l_toStringS:Valid Tryz.prog gl 26 ct_l_toStringS:=VV mixed tdOk [] [(9,[(7,dI),(5,Sp.own (160) true Kd.str),(0,Sp.dat true lT)]),(5,[(6,dI),(0,Sp.dat true lT),(5,Sp.own (160) true Kd.str)])] P.l_toStringS (ctsCons v_l_roomBehind cN) Tryz.func26 S.l_toStringS_ok
def ct_l_toStringSS:Ct:=⟨[PK.bo mT,PK.ro Kd.bool],false,[oR (Kd.sv (Kd.sv Kd.str))],S.l_toStringSS,[]⟩
theorem v_l_toStringSS:Valid Tryz.prog gl 63 ct_l_toStringSS:=VV mixed tdOk [20] [(9,[(7,dI),(5,Sp.own (160) true (Kd.sv Kd.str)),(0,Sp.dat true mT)]),(5,[(6,dI),(0,Sp.dat true mT),(5,Sp.own (160) true (Kd.sv Kd.str)),(1,Sp.dat false Kd.bool)])] P.l_toStringSS (ctsCons v_l_roomBehind (ctsCons v_l_toStringS cN)) Tryz.func63 S.l_toStringSS_ok
def ct_l_toStringSo:Ct:=⟨[PK.bo lT,PK.ro Kd.bool],false,[(false,[RC.ov Kd.str])],S.l_toStringSo,[]⟩
theorem v_l_toStringSo:Valid Tryz.prog gl 26 ct_l_toStringSo:=VV mixed tdOk [] [(9,[(7,dI),(5,Sp.own (160) true Kd.str),(0,Sp.dat true lT)]),(5,[(6,dI),(0,Sp.dat true lT),(5,Sp.own (160) true Kd.str)])] P.l_toStringSo (ctsCons v_l_roomBehind cN) Tryz.func26 S.l_toStringSo_ok
def ct_l_toStringSSo:Ct:=⟨[PK.bo mT,PK.ro Kd.bool],false,[(false,[RC.rows Kd.str])],S.l_toStringSSo,[]⟩
theorem v_l_toStringSSo:Valid Tryz.prog gl 63 ct_l_toStringSSo:=VV mixed tdOk [1000020] [(9,[(7,dI),(5,Sp.rows (160) true Kd.str),(0,Sp.dat true mT)]),(5,[(6,dI),(0,Sp.dat true mT),(5,Sp.rows (160) true Kd.str),(1,Sp.dat false Kd.bool)])] P.l_toStringSSo (ctsCons v_l_roomBehind (ctsCons v_l_toStringSo cN)) Tryz.func63 S.l_toStringSSo_ok
def ct_l_toChain:Ct:=⟨[PK.bo (Kd.st mT),PK.ro Kd.bool],false,[(true,[RC.ro (Kd.st (Kd.sv (Kd.sv Kd.str)))])],S.l_toChain,[]⟩
theorem v_l_toChain:Valid Tryz.prog gl 17 ct_l_toChain:=VV mixed tdOk [] [] P.l_toChain (ctsCons v_l_toStringSS (ctsCons v_l_toStringSSo cN)) Tryz.func17 S.l_toChain_ok
def ct_l_eqStringS:Ct:=⟨[PK.bo lT,PK.bo lT],false,rB,S.l_eqStringS,[]⟩
theorem v_l_eqStringS:Valid Tryz.prog gl 28 ct_l_eqStringS:=VV mixed tdOk [] [(4,[(5,dI),(0,Sp.dat true lT),(1,Sp.dat true lT)])] P.l_eqStringS cN Tryz.func28 S.l_eqStringS_ok
def ct_l_intactStringS:Ct:=⟨[PK.bo (Kd.sv Kd.str),PK.bo (Kd.sv Kd.str)],false,rB,S.l_intactStringS,[]⟩
theorem v_l_intactStringS:Valid Tryz.prog gl 29 ct_l_intactStringS:=VV mixed tdOk [] [] P.l_intactStringS (ctsCons v_l_roomBehind (ctsCons v_l_eqStringS cN)) Tryz.func29 S.l_intactStringS_ok
def ct_l_eqStringSS:Ct:=⟨[PK.bo mT,PK.bo mT],false,rB,S.l_eqStringSS,[]⟩
theorem v_l_eqStringSS:Valid Tryz.prog gl 104 ct_l_eqStringSS:=VV mixed tdOk [] [(4,[(5,dI),(0,Sp.dat true mT),(1,Sp.dat true mT)])] P.l_eqStringSS (ctsCons v_l_eqStringS cN) Tryz.func104 S.l_eqStringSS_ok
def ct_l_intactStringSS:Ct:=⟨[PK.bo (Kd.sv (Kd.sv Kd.str)),PK.bo (Kd.sv (Kd.sv Kd.str))],false,rB,S.l_intactStringSS,[]⟩
theorem v_l_intactStringSS:Valid Tryz.prog gl 66 ct_l_intactStringSS:=VV mixed tdOk [] [(5,[(6,dI),(1,Sp.dat true (Kd.sv (Kd.sv Kd.str))),(0,Sp.dat true (Kd.sv (Kd.sv Kd.str))),(5,dI)])] P.l_intactStringSS (ctsCons v_l_roomBehind (ctsCons v_l_intactStringS (ctsCons v_l_eqStringSS cN))) Tryz.func66 S.l_intactStringSS_ok
def ct_l_intactChain:Ct:=⟨[PK.bo (Kd.st (Kd.sv (Kd.sv Kd.str))),PK.bo (Kd.st (Kd.sv (Kd.sv Kd.str)))],false,rB,S.l_intactChain,[]⟩
theorem v_l_intactChain:Valid Tryz.prog gl 20 ct_l_intactChain:=VV mixed tdOk [] [] P.l_intactChain (ctsCons v_l_intactStringSS cN) Tryz.func20 S.l_intactChain_ok
def ct_s_l01Cmp:Ct:=⟨[PK.bo lI,PK.bo lI],false,[oR aI],S.s_l01Cmp,[]⟩
theorem v_s_l01Cmp:Valid Tryz.prog gl 147 ct_s_l01Cmp:=VV mixed tdOk [] [(6,[(5,dI),(0,Sp.dat true lI),(1,Sp.dat true lI)])] P.s_l01Cmp cN Tryz.func147 S.s_l01Cmp_ok
def ct_s_l01Trim:Ct:=⟨[PK.ro lI],false,[oR lI],S.s_l01Trim,[]⟩
theorem v_s_l01Trim:Valid Tryz.prog gl 191 ct_s_l01Trim:=VV mixed tdOk [] [(1,[(0,dL)])] P.s_l01Trim cN Tryz.func191 S.s_l01Trim_ok
def ct_s_l01NatMul:Ct:=⟨[PK.bo lI,PK.bo lI],false,[oR lI],S.s_l01NatMul,[]⟩
theorem v_s_l01NatMul:Valid Tryz.prog gl 148 ct_s_l01NatMul:=VV mixed tdOk [] [(7,[(23,dI),(22,dI),(5,Sp.own (120) true aI),(6,dI),(0,Sp.dat true lI),(1,Sp.dat true lI),(7,dI),(18,dI),(17,dI)]),(3,[(18,dI),(17,dI),(1,Sp.dat true lI),(5,Sp.own (120) true aI),(0,Sp.dat true lI)])] P.s_l01NatMul (ctsCons v_s_l01Trim cN) Tryz.func148 S.s_l01NatMul_ok
def ct_s_l01Equal:Ct:=⟨[PK.bo KS,PK.bo KS],false,rB,S.s_l01Equal,[]⟩
theorem v_s_l01Equal:Valid Tryz.prog gl 90 ct_s_l01Equal:=VV mixed tdOk [] [] P.s_l01Equal (ctsCons v_s_l01Cmp (ctsCons v_s_l01NatMul cN)) Tryz.func90 S.s_l01Equal_ok
def ct_s_l01Cut:Ct:=⟨[PK.ro Kd.str,PK.ro (Kd.int IntKind.u8)],false,[(false,[RC.own Kd.str])],S.s_l01Cut,[]⟩
theorem v_s_l01Cut:Valid Tryz.prog gl 161 ct_s_l01Cut:=VV mixed tdOk [] [(4,[(7,dI),(0,Sp.dat false Kd.str),(1,Sp.dat false (Kd.int IntKind.u8)),(5,Sp.own (64) true Kd.str),(6,dI)])] P.s_l01Cut cN Tryz.func161 S.s_l01Cut_ok
def ct_s_l01Nat:Ct:=⟨[pI],false,[oR lI],S.s_l01Nat,[]⟩
theorem v_s_l01Nat:Valid Tryz.prog gl 194 ct_s_l01Nat:=VV mixed tdOk [] [(2,[(0,dI),(3,Sp.own (32) true aI)])] P.s_l01Nat cN Tryz.func194 S.s_l01Nat_ok
def ct_s_l01Digit:Ct:=⟨[PK.bo lI,pI],false,[oR aI],S.s_l01Digit,[]⟩
theorem v_s_l01Digit:Valid Tryz.prog gl 193 ct_s_l01Digit:=VV mixed tdOk [] [] P.s_l01Digit cN Tryz.func193 S.s_l01Digit_ok
def ct_s_l01Small:Ct:=⟨[PK.bo lI],true,[oR aI,oR Kd.bool],S.s_l01Small,[]⟩
theorem v_s_l01Small:Valid Tryz.prog gl 209 ct_s_l01Small:=VV mixed tdOk [] [] P.s_l01Small (ctsCons v_s_l01Digit cN) Tryz.func209 S.s_l01Small_ok
def ct_s_l01ShortMul:Ct:=⟨[PK.bo lI,pI],false,[(false,[RC.own aI])],S.s_l01ShortMul,[]⟩
theorem v_s_l01ShortMul:Valid Tryz.prog gl 211 ct_s_l01ShortMul:=VV mixed tdOk [] [(4,[(16,dI),(15,dI),(14,Sp.dat true lI),(1,dI),(6,dI),(5,Sp.own (104) true aI)])] P.s_l01ShortMul cN Tryz.func211 S.s_l01ShortMul_ok
def ct_s_l01ShortDiv:Ct:=⟨[PK.bo lI,pI],true,[oR lI,oR aI],S.s_l01ShortDiv,[]⟩
theorem v_s_l01ShortDiv:Valid Tryz.prog gl 210 ct_s_l01ShortDiv:=VV mixed tdOk [] [(4,[(8,dI),(7,dI),(0,Sp.dat true lI),(6,Sp.own (96) true aI),(1,dI)])] P.s_l01ShortDiv (ctsCons v_s_l01Trim cN) Tryz.func210 S.s_l01ShortDiv_ok
def ct_s_l01TakeOff:Ct:=⟨[PK.mu aI,PK.bo lI,pI,pI],false,rB,S.s_l01TakeOff,[]⟩
theorem v_s_l01TakeOff:Valid Tryz.prog gl 212 ct_s_l01TakeOff:=VV mixed tdOk [] [(3,[(15,dI),(14,dI),(13,Sp.dat true lI),(0,Sp.own (0) false aI),(2,dI),(3,dI),(9,dI),(1,Sp.dat true lI)])] P.s_l01TakeOff cN Tryz.func212 S.s_l01TakeOff_ok
def ct_s_l01PutBack:Ct:=⟨[PK.mu aI,PK.bo lI,pI],true,[],S.s_l01PutBack,[]⟩
theorem v_s_l01PutBack:Valid Tryz.prog gl 213 ct_s_l01PutBack:=VV mixed tdOk [] [(2,[(12,dI),(11,dI),(10,Sp.dat true lI),(0,Sp.own (0) false aI),(2,dI),(6,dI),(1,Sp.dat true lI)])] P.s_l01PutBack cN Tryz.func213 S.s_l01PutBack_ok
def ct_s_l01NatDiv:Ct:=⟨[PK.bo lI,PK.bo lI],true,[oR lI,oR lI],S.s_l01NatDiv,[]⟩
theorem v_s_l01NatDiv:Valid Tryz.prog gl 192 ct_s_l01NatDiv:=VV mixed tdOk [] [(21,[(19,dI),(14,dL),(15,dI),(20,dI),(13,Sp.own (624) true aI),(17,dI),(16,Sp.own (744) true aI),(12,dI)]),(17,[(17,dI),(13,Sp.own (624) true aI),(15,dI),(14,dL),(16,Sp.own (744) true aI),(12,dI)])] P.s_l01NatDiv (ctsCons v_s_l01Trim (ctsCons v_s_l01Nat (ctsCons v_s_l01Cmp (ctsCons v_s_l01Small (ctsCons v_s_l01ShortMul (ctsCons v_s_l01ShortDiv (ctsCons v_s_l01TakeOff (ctsCons v_s_l01PutBack cN)))))))) Tryz.func192 S.s_l01NatDiv_ok
def ct_s_l01Gcd:Ct:=⟨[PK.ro lI,PK.ro lI],false,[oR lI],S.s_l01Gcd,[]⟩
theorem v_s_l01Gcd:Valid Tryz.prog gl 164 ct_s_l01Gcd:=VV mixed tdOk [] [(1,[(1,dL),(0,dL)])] P.s_l01Gcd (ctsCons v_s_l01NatDiv cN) Tryz.func164 S.s_l01Gcd_ok
def ct_s_l01NatRead:Ct:=⟨[PK.ro Kd.str],false,[oR lI],S.s_l01NatRead,[]⟩
theorem v_s_l01NatRead:Valid Tryz.prog gl 163 ct_s_l01NatRead:=VV mixed tdOk [] [(10,[(7,dI),(4,dI),(6,dI),(0,Sp.dat false Kd.str),(3,Sp.own (64) true aI)]),(3,[(4,dI),(0,Sp.dat false Kd.str),(3,Sp.own (64) true aI)])] P.s_l01NatRead (ctsCons v_s_l01Trim cN) Tryz.func163 S.s_l01NatRead_ok
def ct_s_l01Digits:Ct:=⟨[PK.ro Kd.str],false,rB,S.s_l01Digits,[]⟩
theorem v_s_l01Digits:Valid Tryz.prog gl 162 ct_s_l01Digits:=VV mixed tdOk [] [(2,[(3,dI),(0,Sp.dat false Kd.str)])] P.s_l01Digits cN Tryz.func162 S.s_l01Digits_ok
def ct_s_l01Parse:Ct:=⟨[PK.ro Kd.str],true,[(true,[RC.ro KS]),oR Kd.bool],S.s_l01Parse,[]⟩
theorem v_s_l01Parse:Valid Tryz.prog gl 110 ct_s_l01Parse:=VV mixed tdOk [] [] P.s_l01Parse (ctsCons v_s_l01Cut (ctsCons v_s_l01Cmp (ctsCons v_s_l01Gcd (ctsCons v_s_l01NatRead (ctsCons v_s_l01Digits cN))))) Tryz.func110 S.s_l01Parse_ok
def ct_s_l01List:Ct:=⟨[PK.bo lT],true,[oR lS,oR Kd.bool],S.s_l01List,[]⟩
theorem v_s_l01List:Valid Tryz.prog gl 68 ct_s_l01List:=VV mixed tdOk [] [(5,[(14,dI),(13,dI),(0,Sp.dat true lT),(4,Sp.own (88) true KS)])] P.s_l01List (ctsCons v_s_l01Parse cN) Tryz.func68 S.s_l01List_ok
def ct_s_l01Int:Ct:=⟨[pI],false,[(true,[RC.ro KS])],S.s_l01Int,[]⟩
theorem v_s_l01Int:Valid Tryz.prog gl 168 ct_s_l01Int:=VV mixed tdOk [] [] P.s_l01Int (ctsCons v_s_l01Nat cN) Tryz.func168 S.s_l01Int_ok
def ct_s_l01One:Ct:=⟨[],false,[(true,[RC.ro KS])],S.s_l01One,[]⟩
theorem v_s_l01One:Valid Tryz.prog gl 114 ct_s_l01One:=VV mixed tdOk [] [] P.s_l01One (ctsCons v_s_l01Int cN) Tryz.func114 S.s_l01One_ok
def ct_s_l01None:Ct:=⟨[],false,[(true,[RC.ro KS])],S.s_l01None,[]⟩
theorem v_s_l01None:Valid Tryz.prog gl 123 ct_s_l01None:=VV mixed tdOk [] [] P.s_l01None (ctsCons v_s_l01Int cN) Tryz.func123 S.s_l01None_ok
def ct_s_l01NatAdd:Ct:=⟨[PK.bo lI,PK.bo lI],false,[oR lI],S.s_l01NatAdd,[]⟩
theorem v_s_l01NatAdd:Valid Tryz.prog gl 156 ct_s_l01NatAdd:=VV mixed tdOk [] [(4,[(7,dI),(0,Sp.dat true lI),(1,Sp.dat true lI),(6,dI),(5,Sp.own (72) true aI)])] P.s_l01NatAdd (ctsCons v_s_l01Digit cN) Tryz.func156 S.s_l01NatAdd_ok
def ct_s_l01NatLess:Ct:=⟨[PK.bo lI,PK.bo lI],false,[oR lI],S.s_l01NatLess,[]⟩
theorem v_s_l01NatLess:Valid Tryz.prog gl 157 ct_s_l01NatLess:=VV mixed tdOk [] [(4,[(12,dI),(11,dI),(0,Sp.dat true lI),(1,Sp.dat true lI),(6,dI),(5,Sp.own (72) true aI)])] P.s_l01NatLess (ctsCons v_s_l01Trim (ctsCons v_s_l01Digit cN)) Tryz.func157 S.s_l01NatLess_ok
def ct_s_l01Make:Ct:=⟨[PK.ro Kd.bool,PK.ro lI,PK.ro lI],false,[(true,[RC.ro KS])],S.s_l01Make,[]⟩
theorem v_s_l01Make:Valid Tryz.prog gl 155 ct_s_l01Make:=VV mixed tdOk [] [] P.s_l01Make (ctsCons v_s_l01Cmp (ctsCons v_s_l01NatDiv (ctsCons v_s_l01Gcd cN))) Tryz.func155 S.s_l01Make_ok
def ct_s_l01Sum:Ct:=⟨[PK.bo KS,PK.bo KS],false,[(true,[RC.ro KS])],S.s_l01Sum,[]⟩
theorem v_s_l01Sum:Valid Tryz.prog gl 97 ct_s_l01Sum:=VV mixed tdOk [] [] P.s_l01Sum (ctsCons v_s_l01Cmp (ctsCons v_s_l01NatMul (ctsCons v_s_l01NatAdd (ctsCons v_s_l01NatLess (ctsCons v_s_l01Make cN))))) Tryz.func97 S.s_l01Sum_ok
def ct_s_l01Total:Ct:=⟨[PK.bo lS],false,[(true,[RC.ro KS])],S.s_l01Total,[]⟩
theorem v_s_l01Total:Valid Tryz.prog gl 71 ct_s_l01Total:=VV mixed tdOk [] [(3,[(8,dI),(7,dI),(3,Sp.var (24) KS),(0,Sp.dat true lS),(2,Sp.var (16) KS)])] P.s_l01Total (ctsCons v_s_l01None (ctsCons v_s_l01Sum cN)) Tryz.func71 S.s_l01Total_ok
def ct_s_l01Positive:Ct:=⟨[PK.bo lS],false,rB,S.s_l01Positive,[]⟩
theorem v_s_l01Positive:Valid Tryz.prog gl 69 ct_s_l01Positive:=VV mixed tdOk [] [(2,[(6,dI),(5,dI),(0,Sp.dat true lS)])] P.s_l01Positive cN Tryz.func69 S.s_l01Positive_ok
def ct_s_l01Weights:Ct:=⟨[PK.bo lS],false,rB,S.s_l01Weights,[]⟩
theorem v_s_l01Weights:Valid Tryz.prog gl 133 ct_s_l01Weights:=VV mixed tdOk [] [] P.s_l01Weights (ctsCons v_s_l01One (ctsCons v_s_l01Equal (ctsCons v_s_l01Total (ctsCons v_s_l01Positive cN)))) Tryz.func133 S.s_l01Weights_ok
def ct_s_l03Parse:Ct:=⟨[PK.bo (Kd.pt (Kd.st mT))],true,[(true,[RC.ro (Kd.st mS)]),oR Kd.bool],S.s_l03Parse,[]⟩
theorem v_s_l03Parse:Valid Tryz.prog gl 61 ct_s_l03Parse:=VV mixed tdOk [] [(6,[(27,dI),(26,dI),(0,Sp.dat true (Kd.pt (Kd.st mT))),(4,dI),(2,Sp.var (16) (Kd.st mS)),(5,Sp.vow (40) (512) lS)])] P.s_l03Parse (ctsCons v_s_l01List (ctsCons v_s_l01Weights cN)) Tryz.func61 S.s_l03Parse_ok
def ct_s_l01Times:Ct:=⟨[PK.bo KS,PK.bo KS],false,[(true,[RC.ro KS])],S.s_l01Times,[]⟩
theorem v_s_l01Times:Valid Tryz.prog gl 112 ct_s_l01Times:=VV mixed tdOk [] [] P.s_l01Times (ctsCons v_s_l01NatMul (ctsCons v_s_l01Make cN)) Tryz.func112 S.s_l01Times_ok
def ct_s_l01Over:Ct:=⟨[PK.bo KS,PK.bo KS],false,[(true,[RC.ro KS])],S.s_l01Over,[]⟩
theorem v_s_l01Over:Valid Tryz.prog gl 98 ct_s_l01Over:=VV mixed tdOk [] [] P.s_l01Over (ctsCons v_s_l01NatMul (ctsCons v_s_l01Make cN)) Tryz.func98 S.s_l01Over_ok
def ct_s_l00Has:Ct:=⟨[PK.bo lI,pI],false,rB,S.s_l00Has,[]⟩
theorem v_s_l00Has:Valid Tryz.prog gl 135 ct_s_l00Has:=VV mixed tdOk [] [(2,[(5,dI),(0,Sp.dat true lI),(1,dI)])] P.s_l00Has cN Tryz.func135 S.s_l00Has_ok
def ct_s_l00Put:Ct:=⟨[PK.ro lI,pI],false,[oR lI],S.s_l00Put,[]⟩
theorem v_s_l00Put:Valid Tryz.prog gl 145 ct_s_l00Put:=VV mixed tdOk [] [(4,[(7,dI),(0,dL),(6,Sp.dat false Kd.bool),(1,dI),(5,Sp.own (64) true aI)])] P.s_l00Put cN Tryz.func145 S.s_l00Put_ok
def ct_s_l01Zero:Ct:=⟨[PK.bo KS],false,rB,S.s_l01Zero,[]⟩
theorem v_s_l01Zero:Valid Tryz.prog gl 70 ct_s_l01Zero:=VV mixed tdOk [] [] P.s_l01Zero cN Tryz.func70 S.s_l01Zero_ok
def ct_s_l03Reach:Ct:=⟨[PK.bo (Kd.pt (Kd.st mS)),pI],false,[oR lI],S.s_l03Reach,[]⟩
theorem v_s_l03Reach:Valid Tryz.prog gl 134 ct_s_l03Reach:=VV mixed tdOk [] [(7,[(24,dI),(23,dI),(0,Sp.dat true (Kd.pt (Kd.st mS))),(5,Sp.own (80) true aI),(7,dI),(6,dL)]),(4,[(7,dI),(5,Sp.own (80) true aI),(0,Sp.dat true (Kd.pt (Kd.st mS))),(6,dL)])] P.s_l03Reach (ctsCons v_s_l00Has (ctsCons v_s_l00Put (ctsCons v_s_l01Zero cN))) Tryz.func134 S.s_l03Reach_ok
def ct_s_l03Classes:Ct:=⟨[PK.bo (Kd.pt (Kd.st mS))],true,[(false,[RC.own aI]),oR lI],S.s_l03Classes,[]⟩
theorem v_s_l03Classes:Valid Tryz.prog gl 62 ct_s_l03Classes:=VV mixed tdOk [] [(16,[(43,dI),(42,dI),(0,Sp.dat true (Kd.pt (Kd.st mS))),(9,dL),(8,dI),(4,Sp.own (136) true aI),(7,dI),(10,Sp.dat false Kd.bool),(6,Sp.own (216) true aI),(30,dI),(29,dI)]),(10,[(30,dI),(29,dI),(4,Sp.own (136) true aI),(0,Sp.dat true (Kd.pt (Kd.st mS))),(7,dI),(6,Sp.own (216) true aI)]),(3,[(20,dI),(19,dI),(4,Sp.own (136) true aI),(0,Sp.dat true (Kd.pt (Kd.st mS)))])] P.s_l03Classes (ctsCons v_s_l00Has (ctsCons v_s_l03Reach cN)) Tryz.func62 S.s_l03Classes_ok
def ct_s_l01Opposite:Ct:=⟨[pS],false,[(true,[RC.ro KS])],S.s_l01Opposite,[]⟩
theorem v_s_l01Opposite:Valid Tryz.prog gl 167 ct_s_l01Opposite:=VV mixed tdOk [] [] P.s_l01Opposite cN Tryz.func167 S.s_l01Opposite_ok
def ct_s_l01Minus:Ct:=⟨[pS,pS],false,[(true,[RC.ro KS])],S.s_l01Minus,[]⟩
theorem v_s_l01Minus:Valid Tryz.prog gl 113 ct_s_l01Minus:=VV mixed tdOk [] [] P.s_l01Minus (ctsCons v_s_l01Opposite (ctsCons v_s_l01Sum cN)) Tryz.func113 S.s_l01Minus_ok
def ct_s_l03Swap:Ct:=⟨[PK.mr KS,pI,pI],true,[],S.s_l03Swap,[]⟩
theorem v_s_l03Swap:Valid Tryz.prog gl 198 ct_s_l03Swap:=VV mixed tdOk [] [] P.s_l03Swap cN Tryz.func198 S.s_l03Swap_ok
def ct_s_l03Solve:Ct:=⟨[PK.mr KS],true,[oR lS,oR Kd.bool],S.s_l03Solve,[]⟩
theorem v_s_l03Solve:Valid Tryz.prog gl 178 ct_s_l03Solve:=VV mixed tdOk [] [(22,[(11,dI),(4,dI),(10,Sp.own (832) true KS),(0,Sp.rows (0) false KS)]),(17,[(9,dI),(4,dI),(0,Sp.rows (0) false KS),(7,dI),(8,Sp.var (64) KS),(5,dI)]),(12,[(7,dI),(4,dI),(5,dI),(0,Sp.rows (0) false KS)]),(6,[(6,dI),(4,dI),(0,Sp.rows (0) false KS),(5,dI)]),(3,[(5,dI),(4,dI),(0,Sp.rows (0) false KS)])] P.s_l03Solve (ctsCons v_s_l01Zero (ctsCons v_s_l01Minus (ctsCons v_s_l01Times (ctsCons v_s_l01Over (ctsCons v_s_l03Swap cN))))) Tryz.func178 S.s_l03Solve_ok
def ct_s_l03Rest:Ct:=⟨[PK.pm (Kd.st mS)],true,[oR lS,oR Kd.bool],S.s_l03Rest,[]⟩
theorem v_s_l03Rest:Valid Tryz.prog gl 126 ct_s_l03Rest:=VV mixed tdOk [1000026,1000074] [(11,[(10,dI),(6,dI),(0,Sp.pm (Kd.st mS)),(8,dI),(9,Sp.own (256) true KS),(7,Sp.rows (208) true KS)]),(7,[(8,dI),(6,dI),(0,Sp.pm (Kd.st mS)),(7,Sp.rows (208) true KS)])] P.s_l03Rest (ctsCons v_s_l01One (ctsCons v_s_l01None (ctsCons v_s_l01Minus (ctsCons v_s_l03Classes (ctsCons v_s_l03Solve cN))))) Tryz.func126 S.s_l03Rest_ok
def ct_s_l03Reverse:Ct:=⟨[PK.pm (Kd.st mS)],true,[(true,[RC.ro (Kd.st mS)]),oR Kd.bool],S.s_l03Reverse,[]⟩
theorem v_s_l03Reverse:Valid Tryz.prog gl 89 ct_s_l03Reverse:=VV mixed tdOk [] [(15,[(50,dI),(49,dI),(11,Sp.own (352) true KS),(7,Sp.dat false lS),(0,Sp.pm (Kd.st mS)),(10,dI),(9,Sp.vow (72) (648) lS),(41,dI),(40,dI),(2,Sp.var (16) mS)]),(11,[(41,dI),(40,dI),(0,Sp.pm (Kd.st mS)),(7,Sp.dat false lS),(9,Sp.vow (72) (648) lS),(2,Sp.var (16) mS)]),(3,[(20,dI),(19,dI),(4,dL),(2,Sp.var (16) (Kd.st mS)),(0,Sp.pm (Kd.st mS))])] P.s_l03Reverse (ctsCons v_s_l01Times (ctsCons v_s_l01Over (ctsCons v_s_l03Classes (ctsCons v_s_l03Rest cN)))) Tryz.func89 S.s_l03Reverse_ok
def ct_s_IsReversible:Ct:=⟨[PK.bo (Kd.st mT)],false,rB,S.s_IsReversible,[]⟩
theorem v_s_IsReversible:Valid Tryz.prog gl 36 ct_s_IsReversible:=VV mixed tdOk [] [(11,[(30,dI),(29,dI),(3,Sp.var (24) mS),(7,dI),(5,Sp.var (40) mS),(24,dI),(23,dI)]),(8,[(24,dI),(23,dI),(3,Sp.var (24) mS),(5,Sp.var (40) mS)])] P.s_IsReversible (ctsCons v_s_l01Equal (ctsCons v_s_l03Parse (ctsCons v_s_l03Reverse cN))) Tryz.func36 S.s_IsReversible_ok
def ct_i_magnitude:Ct:=⟨[pI],false,[oR (Kd.int IntKind.u64)],S.i_magnitude,[]⟩
theorem v_i_magnitude:Valid Tryz.prog gl 175 ct_i_magnitude:=VV mixed tdOk [] [] P.i_magnitude cN Tryz.func175 S.i_magnitude_ok
def ct_i_nat_trim:Ct:=⟨[PK.ro lU],false,[oR lU],S.i_nat_trim,[]⟩
theorem v_i_nat_trim:Valid Tryz.prog gl 196 ct_i_nat_trim:=VV mixed tdOk [] [(1,[(0,Sp.dat false lU)])] P.i_nat_trim cN Tryz.func196 S.i_nat_trim_ok
def ct_i_natOf:Ct:=⟨[PK.ro (Kd.int IntKind.u64)],false,[oR lU],S.i_natOf,[]⟩
theorem v_i_natOf:Valid Tryz.prog gl 174 ct_i_natOf:=VV mixed tdOk [] [] P.i_natOf (ctsCons v_i_nat_trim cN) Tryz.func174 S.i_natOf_ok
def ct_i_whole:Ct:=⟨[pI],false,[(true,[RC.ro KR])],S.i_whole,[]⟩
theorem v_i_whole:Valid Tryz.prog gl 120 ct_i_whole:=VV mixed tdOk [] [] P.i_whole (ctsCons v_i_magnitude (ctsCons v_i_natOf cN)) Tryz.func120 S.i_whole_ok
def ct_i_nat_cmp:Ct:=⟨[PK.bo lU,PK.bo lU],false,[oR aI],S.i_nat_cmp,[]⟩
theorem v_i_nat_cmp:Valid Tryz.prog gl 171 ct_i_nat_cmp:=VV mixed tdOk [] [(6,[(5,dI),(0,Sp.dat true lU),(1,Sp.dat true lU)])] P.i_nat_cmp cN Tryz.func171 S.i_nat_cmp_ok
def ct_i_nat_mul:Ct:=⟨[PK.bo lU,PK.bo lU],false,[oR lU],S.i_nat_mul,[]⟩
theorem v_i_nat_mul:Valid Tryz.prog gl 170 ct_i_nat_mul:=VV mixed tdOk [] [(7,[(26,dI),(25,dI),(24,Sp.dat true lU),(8,Sp.dat false (Kd.int IntKind.u64)),(7,Sp.dat false aU),(5,Sp.own (128) true aU),(6,dI),(1,Sp.dat true lU),(19,dI),(18,dI),(17,Sp.dat true lU)]),(3,[(19,dI),(18,dI),(17,Sp.dat true lU),(1,Sp.dat true lU),(5,Sp.own (128) true aU)])] P.i_nat_mul (ctsCons v_i_nat_trim cN) Tryz.func170 S.i_nat_mul_ok
def ct_i_rat_sign:Ct:=⟨[PK.bo KR],false,[oR aI],S.i_rat_sign,[]⟩
theorem v_i_rat_sign:Valid Tryz.prog gl 79 ct_i_rat_sign:=VV mixed tdOk [] [] P.i_rat_sign cN Tryz.func79 S.i_rat_sign_ok
def ct_i_rat_cmp:Ct:=⟨[PK.bo KR,PK.bo KR],false,[oR aI],S.i_rat_cmp,[]⟩
theorem v_i_rat_cmp:Valid Tryz.prog gl 153 ct_i_rat_cmp:=VV mixed tdOk [] [] P.i_rat_cmp (ctsCons v_i_nat_cmp (ctsCons v_i_nat_mul (ctsCons v_i_rat_sign cN))) Tryz.func153 S.i_rat_cmp_ok
def ct_i_rat_isOne:Ct:=⟨[PK.bo KR],false,rB,S.i_rat_isOne,[]⟩
theorem v_i_rat_isOne:Valid Tryz.prog gl 182 ct_i_rat_isOne:=VV mixed tdOk [] [] P.i_rat_isOne (ctsCons v_i_whole (ctsCons v_i_rat_cmp cN)) Tryz.func182 S.i_rat_isOne_ok
def ct_strings_Cut:Ct:=⟨[PK.ro Kd.str,PK.ro Kd.str],true,[oR Kd.str,oR Kd.str,oR Kd.bool],S.strings_Cut,[]⟩
theorem v_strings_Cut (hM:InM gl):Valid Tryz.prog gl 184 ct_strings_Cut:=by
 refine told_flat (enters_of Tryz.func184 (by kernel_rfl) (by kernel_rfl)) (fun _ _ _ _ _ _=>trivial) (fun w M0 W0 us x γ hl hW ha r hr=> ?_);obtain⟨s,b,q⟩:=x;obtain⟨u1,_,rfl,⟨c1,h1,h1'⟩,u2,_,rfl,⟨c2,h2,h2'⟩,rfl⟩:=ha;cases h1';cases h2';subst h1;subst h2;unfold S.strings_Cut at hr;split at hr
 case isFalse=>cases hr
 rename_i hc;cases hr;obtain⟨m,hm⟩:=hM;refine(Tryz.strings_Cut s b m w hc (laid_cell hl hm)).mono ?_
 rintro e w' ⟨rfl,n,rfl⟩
 exact⟨[_,_,_],rfl,⟨rfl,rfl,rfl,Nat.le_refl _,fun _ _=>rfl⟩,fun M'=>⟨[_],[_,_],rfl,fun _=>rfl,rfl,[_],[_],rfl,fun _=>rfl,rfl,[_],rfl,fun _=>rfl,rfl⟩⟩
def ct_strings_CutPrefix:Ct:=⟨[PK.ro Kd.str,PK.ro Kd.str],true,[oR Kd.str,oR Kd.bool],S.strings_CutPrefix,[]⟩
theorem v_strings_CutPrefix:Valid Tryz.prog gl 185 ct_strings_CutPrefix:=by
 refine told_flat (enters_of Tryz.func185 (by kernel_rfl) (by kernel_rfl)) (fun _ _ _ _ _ _=>trivial) (fun w M0 W0 us x γ hl hW ha r hr=> ?_);obtain⟨s,b,q⟩:=x;obtain⟨u1,_,rfl,⟨c1,h1,h1'⟩,u2,_,rfl,⟨c2,h2,h2'⟩,rfl⟩:=ha;cases h1';cases h2';subst h1;subst h2;cases hr;refine(Tryz.strings_CutPrefix s b w).mono ?_
 rintro e w' ⟨rfl,rfl⟩
 exact⟨[_,_],rfl,Below.refl _ _,fun M'=>⟨[_],[_],rfl,fun _=>rfl,rfl,[_],rfl,fun _=>rfl,rfl⟩⟩
def ct_i_nat_small:Ct:=⟨[PK.bo lU],true,[oR (Kd.int IntKind.u64),oR Kd.bool],S.i_nat_small,[]⟩
theorem v_i_nat_small:Valid Tryz.prog gl 203 ct_i_nat_small:=VV mixed tdOk [] [(3,[(5,dI),(0,Sp.dat true lU),(4,Sp.dat false (Kd.int IntKind.u64))])] P.i_nat_small cN Tryz.func203 S.i_nat_small_ok
def ct_math_bits_LeadingZeros32:Ct:=⟨[PK.ro aU],false,[oR aI],S.math_bits_LeadingZeros32,[]⟩
theorem v_math_bits_LeadingZeros32:Valid Tryz.prog gl 214 ct_math_bits_LeadingZeros32:=by
 refine told_flat (enters_of Tryz.func214 (by kernel_rfl) (by kernel_rfl)) (fun _ _ _ _ _ _=>trivial) (fun w M0 W0 us x γ hl hW ha r hr=> ?_);obtain⟨n,q⟩:=x;obtain⟨u1,_,rfl,⟨c1,h1,h1'⟩,rfl⟩:=ha;cases h1';subst h1;unfold S.math_bits_LeadingZeros32 at hr;split at hr
 case isFalse=>cases hr
 rename_i hc;cases hr;refine(Tryz.bits_LeadingZeros32 n w hc.1 hc.2).mono ?_
 rintro e w' ⟨rfl,rfl⟩
 exact⟨[_],rfl,Below.refl _ _,fun M'=>⟨[_],rfl,fun _=>rfl,rfl⟩⟩
def ct_i_nat_divSmall:Ct:=⟨[PK.bo lU,PK.ro aU],true,[oR lU,oR aU],S.i_nat_divSmall,[]⟩
theorem v_i_nat_divSmall:Valid Tryz.prog gl 204 ct_i_nat_divSmall:=VV mixed tdOk [] [(3,[(8,dI),(7,Sp.dat false (Kd.int IntKind.u64)),(0,Sp.dat true lU),(6,Sp.own (88) true aU),(1,Sp.dat false aU)])] P.i_nat_divSmall (ctsCons v_i_nat_trim cN) Tryz.func204 S.i_nat_divSmall_ok
def ct_i_nat_shifted:Ct:=⟨[PK.bo lU,pI],false,[(false,[RC.own aU])],S.i_nat_shifted,[]⟩
theorem v_i_nat_shifted:Valid Tryz.prog gl 215 ct_i_nat_shifted:=VV mixed tdOk [] [(3,[(15,dI),(14,dI),(13,Sp.dat true lU),(1,dI),(5,Sp.own (96) true aU)])] P.i_nat_shifted cN Tryz.func215 S.i_nat_shifted_ok
def ct_i_takeAway:Ct:=⟨[PK.mu aU,PK.bo lU,PK.ro (Kd.int IntKind.u64)],false,rB,S.i_takeAway,[]⟩
theorem v_i_takeAway:Valid Tryz.prog gl 216 ct_i_takeAway:=VV mixed tdOk [] [(18,[(59,dI),(58,dI),(7,Sp.dat false (Kd.int IntKind.u64)),(0,Sp.own (0) false aU),(1,Sp.dat true lU)]),(3,[(14,dI),(13,dI),(1,Sp.dat true lU),(7,Sp.dat false (Kd.int IntKind.u64)),(2,Sp.dat false (Kd.int IntKind.u64)),(0,Sp.own (0) false aU),(8,dI)])] P.i_takeAway cN Tryz.func216 S.i_takeAway_ok
def ct_i_nat_div:Ct:=⟨[PK.ro lU,PK.ro lU],true,[oR lU,oR lU],S.i_nat_div,[]⟩
theorem trimN_snoc (xs:List Int) (x:Int):trimN (xs++[x])=if x=0 then trimN xs else xs.length+1:=by
 unfold trimN;rw[List.reverse_append]
 by_cases h:x=0
 ·simp [h]
 ·simp [h]
theorem trimN_le (xs:List Int):trimN xs<=xs.length:=by
 unfold trimN;have:=(List.dropWhile_sublist (fun x:Int=>x==0) (l:=xs.reverse)).length_le;simpa using this
def lenOfV:Value->Nat
 | .slice _ m _=>m
 |_=>0
set_option maxHeartbeats 800000 in
set_option maxRecDepth 100000 in
theorem trim_calls (b o real:Nat) (xs:List Int) (w:World) (hle:xs.length<=real) (hbig:xs.length<=1000000000000) (hc:∀(i:Nat) (x:Int),xs[i]? =some x->w.cell? ⟨b,o+i,none⟩=some (.int .u32 x)):
  Calls Tryz.prog 196 #[.slice (some ⟨b,o,none⟩) xs.length real] w fun e w'=>e= .returned (.slice (some ⟨b,o,none⟩) (trimN xs) real)/\w'=w:=by
 go_enter Tryz.func196,Tryz.ntmps196
 go_wp2
 go_loopw [0] (fun v wr=>∃m:Nat,m<=xs.length/\v= .slice (some ⟨b,o,none⟩) m real/\wr=w/\trimN (xs.take m)=trimN xs) (fun v _=>lenOfV v)
 case atStart=>exact⟨xs.length,Nat.le_refl _,rfl,rfl,by rw[List.take_length]⟩
 case round=>
  obtain⟨m,hm,rfl,rfl,ht⟩:=hrel
  by_cases h0:0<m
  ·obtain⟨k,rfl⟩:∃k,m=k+1:=⟨m - 1,by omega⟩
   have hx:xs[k]? =some xs[k]:=List.getElem?_eq_getElem (by omega);have hcx:=hc k _ hx;have hw:wrap64 (((k+1:Nat):Int) - 1)=(k:Int):=by
    have e:((k+1:Nat):Int) - 1=(k:Int):=by omega
    rw[e];exact IntWalk.wrap64_in _ (by omega)
   have ht':trimN (xs.take (k+1))=if xs[k]=0 then trimN (xs.take k)else k+1:=by
    rw[<-List.take_append_getElem (show k<xs.length by omega),trimN_snoc];have:(xs.take k).length=k:=by simp;omega
    rw[this]
   go_wp2
   ·have hz:(xs[k]==0)=true:=by assumption
    have hz':xs[k]=0:=by simpa using hz
    rw[if_pos hz']at ht';exact⟨⟨k,by omega,rfl,trivial,by rw[<-ht',ht]⟩,Nat.lt_succ_self k⟩
   ·have hz:(xs[k]==0)=false:=by assumption
    have hz':¬xs[k]=0:=by simpa using hz
    rw[if_neg hz']at ht';rw[<-ht,ht']
    go_ret
    exact⟨rfl,rfl⟩
  ·have h1:m=0:=by omega
   subst h1
   go_wp2
   have h2:trimN xs=0:=by rw[<-ht];rfl
   rw[h2]
   go_ret
   exact⟨rfl,rfl⟩
set_option maxHeartbeats 800000 in
set_option maxRecDepth 100000 in
theorem trim_calls0 (A:Option Addr) (real:Nat) (w:World):
  Calls Tryz.prog 196 #[.slice A 0 real] w fun e w'=>e= .returned (.slice A 0 real)/\w'=w:=by
 go_enter Tryz.func196,Tryz.ntmps196
 go_wp2
 refine wp_loop_rounds 1 ?_;rw[rounds_succ]
 go_wp2
 go_ret
 exact⟨rfl,rfl⟩
theorem shr_trim:ShrOk Tryz.prog 196 IntKind.u32 trimN:=by
 refine⟨enters_of Tryz.func196 (by kernel_rfl) (by kernel_rfl),fun w u xs A real hbig hsl hno hc=> ?_⟩;obtain⟨A',rfl,hle,hA⟩:=hsl;rcases Nat.eq_zero_or_pos real with h0|h0
 ·have h1:xs=[]:=List.eq_nil_of_length_eq_zero (by omega);subst h1;refine(trim_calls0 A' real w).mono ?_
  rintro e w' ⟨rfl,rfl⟩
  exact⟨rfl,Nat.le_refl _,_,rfl,rfl,A',rfl,Nat.zero_le _,fun h=>by omega⟩
 ·obtain⟨b,o,rfl,rfl⟩:=hA h0;refine(trim_calls b o real xs w hle hbig (hc b o rfl)).mono ?_
  rintro e w' ⟨rfl,rfl⟩
  have:=trimN_le xs;exact⟨rfl,this,_,rfl,rfl,_,rfl,by omega,fun _=>⟨b,o,rfl,rfl⟩⟩
theorem v_i_nat_div:Valid Tryz.prog gl 195 ct_i_nat_div:=VV mixed tdOk [] [(26,[(148,dI),(147,dI),(9,Sp.own (400) true aU),(8,dI),(13,Sp.own (592) true aU)]),(17,[(17,Sp.dat false (Kd.int IntKind.u64)),(12,Sp.dat false (Kd.int IntKind.u64)),(18,Sp.dat false (Kd.int IntKind.u64)),(9,Sp.own (400) true aU),(15,dI),(11,Sp.dat false (Kd.int IntKind.u64)),(14,dI),(10,Sp.dat false lU),(13,Sp.own (592) true aU),(8,dI)]),(12,[(14,dI),(10,Sp.dat false lU),(9,Sp.own (400) true aU),(11,Sp.dat false (Kd.int IntKind.u64)),(12,Sp.dat false (Kd.int IntKind.u64)),(13,Sp.own (592) true aU),(8,dI)])] P.i_nat_div (ctsCons v_math_bits_LeadingZeros32 (ctsCons v_i_nat_trim (ctsCons v_i_nat_cmp (ctsCons v_i_nat_divSmall (ctsCons v_i_nat_shifted (ctsCons v_i_takeAway (ctsShr (s:=(IntKind.u32,trimN)) shr_trim))))))) Tryz.func195 S.i_nat_div_ok
def ct_i_nat_gcd:Ct:=⟨[PK.ro lU,PK.ro lU],false,[oR lU],S.i_nat_gcd,[]⟩
theorem v_i_nat_gcd:Valid Tryz.prog gl 187 ct_i_nat_gcd:=VV mixed tdOk [] [(5,[(7,Sp.dat false (Kd.int IntKind.u64)),(5,Sp.dat false (Kd.int IntKind.u64))]),(1,[(1,Sp.dat false lU),(0,Sp.dat false lU)])] P.i_nat_gcd (ctsCons v_i_natOf (ctsCons v_i_nat_small (ctsCons v_i_nat_div cN))) Tryz.func187 S.i_nat_gcd_ok
def ct_strconv_ParseUint:Ct:=⟨[PK.ro Kd.str,pI,pI],true,[oR (Kd.int IntKind.u64),oR Kd.er],S.strconv_ParseUint,[]⟩
theorem v_strconv_ParseUint (hR:InR gl) (hS:InS gl):Valid Tryz.prog gl 202 ct_strconv_ParseUint:=by
 refine told_flat (enters_of Tryz.func202 (by kernel_rfl) (by kernel_rfl)) (fun _ _ _ _ _ _=>trivial) (fun w M0 W0 us x γ hl hW ha r hr=> ?_);obtain⟨s,b,z,q⟩:=x;obtain⟨u1,_,rfl,⟨c1,h1,h1'⟩,u2,_,rfl,⟨c2,h2,h2'⟩,u3,_,rfl,⟨c3,h3,h3'⟩,rfl⟩:=ha;cases h1';cases h2';cases h3';subst h1;subst h2;subst h3;unfold S.strconv_ParseUint at hr;split at hr
 case isFalse=>cases hr
 rename_i hc;obtain⟨hb,hz,hs⟩:=hc;dsimp only at hb hz hs hr;subst hb;subst hz;obtain⟨t1,p1,hS⟩:=hS;obtain⟨t2,p2,hR⟩:=hR;have v1:w.var? Tryz.prog "strconv.ErrSyntax" =some #[.iface t1 p1]:=laid_var hl hS (by kernel_rfl);have v2:w.var? Tryz.prog "strconv.ErrRange" =some #[.iface t2 p2]:=laid_var hl hR (by kernel_rfl);split at hr
 ·rename_i v hv;cases hr;refine(Tryz.strconv_ParseUint_10_at64_ok s (by omega) v hv w).mono ?_
  rintro e w' ⟨rfl,hw⟩
  refine⟨[_,_],rfl,?_,fun M'=>⟨[_],[_],rfl,fun _=>rfl,rfl,[_],rfl,fun _=>rfl,_,rfl,rfl,rfl⟩⟩;rcases hw with rfl|⟨t,rfl⟩
  ·exact Below.refl _ _
  ·exact⟨rfl,rfl,rfl,by rw[Lib.bytesWorld_size];omega,fun k hk=>Lib.bytesWorld_at_old _ _ _ k (by omega)⟩
 ·rename_i hv;cases hr;refine(Tryz.strconv_ParseUint_10_at64_syntax_var s hs hv t1 p1 w v1).mono ?_
  rintro e w' ⟨N,rfl,_,_,hbl⟩
  exact⟨[_,_],rfl,hbl,fun M'=>⟨[_],[_],rfl,fun _=>rfl,rfl,[_],rfl,fun _=>rfl,_,rfl,rfl,_,_,rfl⟩⟩
 ·rename_i hv;cases hr;refine(Tryz.strconv_ParseUint_10_at64_range_var s hs hv t2 p2 w v2).mono ?_
  rintro e w' ⟨N,rfl,_,_,hbl⟩
  exact⟨[_,_],rfl,hbl,fun M'=>⟨[_],[_],rfl,fun _=>rfl,rfl,[_],rfl,fun _=>rfl,_,rfl,rfl,_,_,rfl⟩⟩
def ct_i_nat_add:Ct:=⟨[PK.bo lU,PK.bo lU],false,[oR lU],S.i_nat_add,[]⟩
theorem v_i_nat_add:Valid Tryz.prog gl 172 ct_i_nat_add:=VV mixed tdOk [] [(5,[(21,dI),(20,dI),(6,Sp.dat false (Kd.int IntKind.u64)),(0,Sp.dat true lU),(1,Sp.dat true lU),(5,Sp.own (144) true aU)])] P.i_nat_add (ctsCons v_i_nat_trim cN) Tryz.func172 S.i_nat_add_ok
def ct_i_readNat:Ct:=⟨[PK.ro Kd.str],true,[oR lU,oR Kd.bool],S.i_readNat,[]⟩
theorem v_i_readNat (hR:InR gl) (hS:InS gl):Valid Tryz.prog gl 186 ct_i_readNat:=VV mixed tdOk [] [(17,[(59,dI),(58,dI),(9,Sp.dat false (Kd.int IntKind.u64)),(4,Sp.dat false lU),(7,Sp.dat false (Kd.int IntKind.u64)),(0,Sp.dat false Kd.str),(6,dI)]),(10,[(0,Sp.dat false Kd.str),(4,Sp.dat false lU)]),(5,[(30,dI),(29,dI),(0,Sp.dat false Kd.str),(4,Sp.dat false lU)])] P.i_readNat (ctsCons (v_strconv_ParseUint hR hS) (ctsCons v_i_natOf (ctsCons v_i_nat_add (ctsCons v_i_nat_mul cN)))) Tryz.func186 S.i_readNat_ok
def ct_i_readRat:Ct:=⟨[PK.ro Kd.str],true,[(true,[RC.ro KR]),oR Kd.bool],S.i_readRat,[]⟩
theorem v_i_readRat (hM:InM gl) (hR:InR gl) (hS:InS gl):Valid Tryz.prog gl 138 ct_i_readRat:=VV mixed tdOk [] [] P.i_readRat (ctsCons (v_strings_Cut hM) (ctsCons v_strings_CutPrefix (ctsCons v_i_natOf (ctsCons v_i_nat_cmp (ctsCons v_i_nat_gcd (ctsCons (v_i_readNat hR hS) cN)))))) Tryz.func138 S.i_readRat_ok
def ct_i_rats:Ct:=⟨[PK.bo lT],true,[oR lR,oR Kd.bool],S.i_rats,[]⟩
theorem v_i_rats (hM:InM gl) (hR:InR gl) (hS:InS gl):Valid Tryz.prog gl 75 ct_i_rats:=VV mixed tdOk [] [(5,[(15,dI),(14,dI),(13,Sp.dat true lT),(4,Sp.own (96) true KR)])] P.i_rats (ctsCons (v_i_readRat hM hR hS) cN) Tryz.func75 S.i_rats_ok
def ct_i_nat_sub:Ct:=⟨[PK.bo lU,PK.bo lU],false,[oR lU],S.i_nat_sub,[]⟩
theorem v_i_nat_sub:Valid Tryz.prog gl 173 ct_i_nat_sub:=VV mixed tdOk [] [(3,[(14,dI),(13,dI),(0,Sp.dat true lU),(6,dI),(1,Sp.dat true lU),(5,Sp.own (88) true aU)])] P.i_nat_sub (ctsCons v_i_nat_trim cN) Tryz.func173 S.i_nat_sub_ok
def ct_i_lowest:Ct:=⟨[PK.ro Kd.bool,PK.ro lU,PK.ro lU],false,[(true,[RC.ro KR])],S.i_lowest,[]⟩
theorem v_i_lowest:Valid Tryz.prog gl 169 ct_i_lowest:=VV mixed tdOk [] [] P.i_lowest (ctsCons v_i_natOf (ctsCons v_i_nat_div (ctsCons v_i_nat_gcd cN))) Tryz.func169 S.i_lowest_ok
def ct_i_rat_add:Ct:=⟨[pR,pR],false,[(true,[RC.ro KR])],S.i_rat_add,[]⟩
theorem v_i_rat_add:Valid Tryz.prog gl 119 ct_i_rat_add:=VV mixed tdOk [] [] P.i_rat_add (ctsCons v_i_nat_cmp (ctsCons v_i_nat_sub (ctsCons v_i_nat_add (ctsCons v_i_nat_mul (ctsCons v_i_lowest (ctsCons v_i_rat_sign cN)))))) Tryz.func119 S.i_rat_add_ok
def ct_i_sum:Ct:=⟨[PK.ro lR],false,[(true,[RC.ro KR])],S.i_sum,[]⟩
theorem v_i_sum:Valid Tryz.prog gl 78 ct_i_sum:=VV mixed tdOk [] [(3,[(9,dI),(8,dI),(7,Sp.dat false lR),(3,Sp.var (24) KR),(2,Sp.var (16) KR)])] P.i_sum (ctsCons v_i_whole (ctsCons v_i_rat_add cN)) Tryz.func78 S.i_sum_ok
def ct_i_isMinus:Ct:=⟨[PK.bo KR],false,rB,S.i_isMinus,[]⟩
theorem v_i_isMinus:Valid Tryz.prog gl 77 ct_i_isMinus:=VV mixed tdOk [] [] P.i_isMinus (ctsCons v_i_rat_sign cN) Tryz.func77 S.i_isMinus_ok
def ct_slices_IndexFunc__i_rat_i_rat:Ct:=⟨[PK.bo lR,PK.fn (77)],false,[oR aI],S.slices_IndexFunc__i_rat_i_rat,[]⟩
theorem v_slices_IndexFunc__i_rat_i_rat:Valid Tryz.prog gl 139 ct_slices_IndexFunc__i_rat_i_rat:=VV mixed tdOk [] [(2,[(8,dI),(7,dI),(1,Sp.fn (77)),(0,Sp.dat true lR)])] P.slices_IndexFunc__i_rat_i_rat (ctsCons v_i_isMinus cN) Tryz.func139 S.slices_IndexFunc__i_rat_i_rat_ok
def ct_slices_ContainsFunc__i_rat_i_rat:Ct:=⟨[PK.bo lR,PK.fn (77)],false,rB,S.slices_ContainsFunc__i_rat_i_rat,[]⟩
theorem v_slices_ContainsFunc__i_rat_i_rat:Valid Tryz.prog gl 76 ct_slices_ContainsFunc__i_rat_i_rat:=VV mixed tdOk [] [] P.slices_ContainsFunc__i_rat_i_rat (ctsCons v_i_isMinus (ctsCons v_slices_IndexFunc__i_rat_i_rat cN)) Tryz.func76 S.slices_ContainsFunc__i_rat_i_rat_ok
def ct_i_notPlus:Ct:=⟨[PK.bo KR],false,rB,S.i_notPlus,[]⟩
theorem v_i_notPlus:Valid Tryz.prog gl 158 ct_i_notPlus:=VV mixed tdOk [] [] P.i_notPlus (ctsCons v_i_rat_sign cN) Tryz.func158 S.i_notPlus_ok
def ct_slices_IndexFunc__i_rat_i_ratP:Ct:=⟨[PK.bo lR,PK.fn (158)],false,[oR aI],S.slices_IndexFunc__i_rat_i_ratP,[]⟩
theorem v_slices_IndexFunc__i_rat_i_ratP:Valid Tryz.prog gl 139 ct_slices_IndexFunc__i_rat_i_ratP:=VV mixed tdOk [] [(2,[(8,dI),(7,dI),(1,Sp.fn (158)),(0,Sp.dat true lR)])] P.slices_IndexFunc__i_rat_i_ratP (ctsCons v_i_notPlus cN) Tryz.func139 S.slices_IndexFunc__i_rat_i_ratP_ok
def ct_slices_ContainsFunc__i_rat_i_ratP:Ct:=⟨[PK.bo lR,PK.fn (158)],false,rB,S.slices_ContainsFunc__i_rat_i_ratP,[]⟩
theorem v_slices_ContainsFunc__i_rat_i_ratP:Valid Tryz.prog gl 76 ct_slices_ContainsFunc__i_rat_i_ratP:=VV mixed tdOk [] [] P.slices_ContainsFunc__i_rat_i_ratP (ctsCons v_i_notPlus (ctsCons v_slices_IndexFunc__i_rat_i_ratP cN)) Tryz.func76 S.slices_ContainsFunc__i_rat_i_ratP_ok
def ct_i_weightsOf:Ct:=⟨[PK.bo lT],true,[oR lR,oR Kd.bool],S.i_weightsOf,[]⟩
theorem v_i_weightsOf (hM:InM gl) (hR:InR gl) (hS:InS gl):Valid Tryz.prog gl 136 ct_i_weightsOf:=VV mixed tdOk [] [] P.i_weightsOf (ctsCons v_i_rat_isOne (ctsCons (v_i_rats hM hR hS) (ctsCons v_i_sum (ctsCons v_i_isMinus (ctsCons v_slices_ContainsFunc__i_rat_i_rat (ctsCons v_slices_ContainsFunc__i_rat_i_ratP cN)))))) Tryz.func136 S.i_weightsOf_ok
def ct_i_chainOf:Ct:=⟨[PK.bo (Kd.st mT)],true,[oR mR,oR Kd.bool],S.i_chainOf,[]⟩
theorem v_i_chainOf (hM:InM gl) (hR:InR gl) (hS:InS gl):Valid Tryz.prog gl 64 ct_i_chainOf:=VV mixed tdOk [] [(5,[(23,dI),(22,dI),(21,Sp.dat true mT),(1,Sp.varb (8) mT),(4,Sp.own (152) true lR)])] P.i_chainOf (ctsCons (v_i_weightsOf hM hR hS) cN) Tryz.func64 S.i_chainOf_ok
def ct_math_bits_Mul64:Ct:=⟨[PK.ro (Kd.int IntKind.u64),PK.ro (Kd.int IntKind.u64)],true,[oR (Kd.int IntKind.u64),oR (Kd.int IntKind.u64)],S.math_bits_Mul64,[]⟩
theorem v_math_bits_Mul64:Valid Tryz.prog gl 190 ct_math_bits_Mul64:=VV mixed tdOk [] [] P.math_bits_Mul64 cN Tryz.func190 S.math_bits_Mul64_ok
def ct_math_bits_Mul:Ct:=⟨[PK.ro (Kd.int IntKind.u64),PK.ro (Kd.int IntKind.u64)],true,[oR (Kd.int IntKind.u64),oR (Kd.int IntKind.u64)],S.math_bits_Mul,[]⟩
theorem v_math_bits_Mul:Valid Tryz.prog gl 146 ct_math_bits_Mul:=VV mixed tdOk [] [] P.math_bits_Mul (ctsCons v_math_bits_Mul64 cN) Tryz.func146 S.math_bits_Mul_ok
def ct_slices_Repeat__int64_int64:Ct:=⟨[PK.ro lI,pI],false,[(false,[RC.own aI])],S.slices_Repeat__int64_int64,[]⟩
theorem v_slices_Repeat__int64_int64:Valid Tryz.prog gl 87 ct_slices_Repeat__int64_int64:=VV mixed tdOk [] [(8,[(8,dI),(7,Sp.own (240) true aI)])] PP.slices_Repeat__int64_int64 (ctsCons v_math_bits_Mul cN) Tryz.func87 (fun x r h=>(S.slices_Repeat__int64_int64_ok x r h).imp fun k hk=>(PP.slices_Repeat__int64_int64_eq k x).trans hk)
def ct_i_reach:Ct:=⟨[PK.bo mR,pI],false,[(false,[RC.own Kd.bool])],S.i_reach,[]⟩
theorem v_i_reach:Valid Tryz.prog gl 183 ct_i_reach:=VV mixed tdOk [] [(7,[(29,dI),(28,dI),(27,Sp.dat true lR),(5,Sp.own (88) true Kd.bool),(6,Sp.own (128) true aI),(0,Sp.dat true mR)]),(4,[(6,Sp.own (128) true aI),(0,Sp.dat true mR),(5,Sp.own (88) true Kd.bool)])] P.i_reach (ctsCons v_i_rat_sign cN) Tryz.func183 S.i_reach_ok
def ct_i_reaches:Ct:=⟨[PK.bo mR],false,[oR (Kd.sl (Kd.sl Kd.bool))],S.i_reaches,[]⟩
theorem v_i_reaches:Valid Tryz.prog gl 137 ct_i_reaches:=VV mixed tdOk [] [(3,[(8,dI),(7,dI),(3,Sp.own (40) true (Kd.sl Kd.bool)),(0,Sp.dat true mR)])] P.i_reaches (ctsCons v_i_reach cN) Tryz.func137 S.i_reaches_ok
def ct_i_classes:Ct:=⟨[PK.bo mR],true,[(false,[RC.own aI]),oR (Kd.sl Kd.bool)],S.i_classes,[]⟩
theorem v_i_classes:Valid Tryz.prog gl 65 ct_i_classes:=VV mixed tdOk [] [(9,[(29,dI),(28,dI),(4,Sp.dat false (Kd.sl (Kd.sl Kd.bool))),(7,dI),(5,Sp.own (120) true aI),(6,Sp.own (128) true Kd.bool),(8,Sp.dat false Kd.bool),(19,dI),(18,dI),(0,Sp.dat true mR)]),(4,[(19,dI),(18,dI),(5,Sp.own (120) true aI),(0,Sp.dat true mR),(4,Sp.dat false (Kd.sl (Kd.sl Kd.bool))),(6,Sp.own (128) true Kd.bool)])] P.i_classes (ctsCons v_slices_Repeat__int64_int64 (ctsCons v_i_reaches cN)) Tryz.func65 S.i_classes_ok
def ct_i_oneClass:Ct:=⟨[PK.bo mR],false,rB,S.i_oneClass,[]⟩
theorem v_i_oneClass:Valid Tryz.prog gl 91 ct_i_oneClass:=VV mixed tdOk [] [] P.i_oneClass (ctsCons v_i_classes cN) Tryz.func91 S.i_oneClass_ok
def ct_i_rat_mul:Ct:=⟨[pR,pR],false,[(true,[RC.ro KR])],S.i_rat_mul,[]⟩
theorem v_i_rat_mul:Valid Tryz.prog gl 118 ct_i_rat_mul:=VV mixed tdOk [] [] P.i_rat_mul (ctsCons v_i_nat_mul (ctsCons v_i_lowest (ctsCons v_i_whole (ctsCons v_i_rat_sign cN)))) Tryz.func118 S.i_rat_mul_ok
def ct_i_rat_over:Ct:=⟨[pR,pR],false,[(true,[RC.ro KR])],S.i_rat_over,[]⟩
theorem v_i_rat_over:Valid Tryz.prog gl 141 ct_i_rat_over:=VV mixed tdOk [] [] P.i_rat_over (ctsCons v_i_rat_mul cN) Tryz.func141 S.i_rat_over_ok
def ct_slices_Repeat__i_rat_i_rat:Ct:=⟨[PK.ro lR,pI],false,[(false,[RC.own KR])],S.slices_Repeat__i_rat_i_rat,[]⟩
theorem v_slices_Repeat__i_rat_i_rat:Valid Tryz.prog gl 125 ct_slices_Repeat__i_rat_i_rat:=VV mixed tdOk [] [(8,[(8,dI),(7,Sp.own (240) true KR)])] PP.slices_Repeat__i_rat_i_rat (ctsCons v_math_bits_Mul cN) Tryz.func125 (fun x r h=>(S.slices_Repeat__i_rat_i_rat_ok x r h).imp fun k hk=>(PP.slices_Repeat__i_rat_i_rat_eq k x).trans hk)
def ct_i_zeros:Ct:=⟨[pI],false,[(false,[RC.rows KR])],S.i_zeros,[]⟩
theorem v_i_zeros:Valid Tryz.prog gl 117 ct_i_zeros:=VV mixed tdOk [1000006] [(3,[(9,dI),(8,dI),(3,Sp.rows (48) true KR),(0,dI)])] P.i_zeros (ctsCons v_slices_Repeat__i_rat_i_rat (ctsCons v_i_whole cN)) Tryz.func117 S.i_zeros_ok
def ct_i_setOf:Ct:=⟨[PK.bo (Kd.sl Kd.bool)],false,[(false,[RC.own aI])],S.i_setOf,[]⟩
theorem v_i_setOf:Valid Tryz.prog gl 83 ct_i_setOf:=VV mixed tdOk [] [(3,[(9,dI),(8,dI),(7,Sp.dat true (Kd.sl Kd.bool)),(3,Sp.own (48) true aI)])] P.i_setOf cN Tryz.func83 S.i_setOf_ok
def ct_i_scaled:Ct:=⟨[PK.ro lR,pR],false,[oR lR],S.i_scaled,[]⟩
theorem v_i_scaled:Valid Tryz.prog gl 81 ct_i_scaled:=VV mixed tdOk [] [(3,[(11,dI),(10,dI),(9,Sp.dat false lR),(5,Sp.own (64) true KR),(3,Sp.var (24) KR)])] P.i_scaled (ctsCons v_i_rat_over cN) Tryz.func81 S.i_scaled_ok
def ct_i_summ:Ct:=⟨[PK.mu KR],false,[(true,[RC.ro KR])],S.i_summ,[]⟩
theorem v_i_summ:Valid Tryz.prog gl 78 ct_i_summ:=VV mixed tdOk [] [(3,[(9,dI),(8,dI),(7,Sp.own (0) false KR),(3,Sp.var (24) KR),(2,Sp.var (16) KR)])] P.i_summ (ctsCons v_i_whole (ctsCons v_i_rat_add cN)) Tryz.func78 S.i_summ_ok
def ct_i_restOf:Ct:=⟨[PK.mr KR],false,[oR lR],S.i_restOf,[]⟩
theorem v_i_restOf:Valid Tryz.prog gl 181 ct_i_restOf:=VV mixed tdOk [] [(22,[(98,dI),(97,dI),(9,Sp.var (72) KR),(7,Sp.own (712) true KR),(0,Sp.rows (0) false KR),(8,dI)]),(18,[(8,dI),(0,Sp.rows (0) false KR),(7,Sp.own (712) true KR)]),(11,[(54,dI),(53,dI),(0,Sp.rows (0) false KR),(5,dI),(3,dI),(26,dI),(25,dI),(4,Sp.var (32) KR)]),(6,[(26,dI),(25,dI),(0,Sp.rows (0) false KR),(3,dI),(4,Sp.var (32) KR)]),(2,[(3,dI),(0,Sp.rows (0) false KR)])] P.i_restOf (ctsCons v_i_whole (ctsCons v_i_rat_sign (ctsCons v_i_rat_add (ctsCons v_i_rat_mul (ctsCons v_i_rat_over (ctsCons v_i_scaled (ctsCons v_i_summ cN))))))) Tryz.func181 S.i_restOf_ok
def ct_i_rest:Ct:=⟨[PK.ro mR],true,[oR lR,oR Kd.bool],S.i_rest,[]⟩
theorem v_i_rest:Valid Tryz.prog gl 130 ct_i_rest:=VV mixed tdOk [1000047,1000074] [(26,[(85,dI),(84,dI),(83,Sp.dat false lR),(16,Sp.own (648) true KR),(7,dL)]),(18,[(57,dI),(56,dI),(55,dL),(13,Sp.own (432) true KR),(0,Sp.dat false mR),(12,dI),(10,Sp.rows (376) true KR),(50,dI),(49,dI),(48,dL),(7,dL)]),(14,[(50,dI),(49,dI),(48,dL),(7,dL),(0,Sp.dat false mR),(10,Sp.rows (376) true KR)]),(7,[(32,dI),(31,dI),(30,dL),(6,dL),(7,Sp.own (232) true aI),(0,Sp.dat false mR)])] P.i_rest (ctsCons v_slices_Repeat__i_rat_i_rat (ctsCons v_i_whole (ctsCons v_i_setOf (ctsCons v_i_classes (ctsCons v_i_restOf cN))))) Tryz.func130 S.i_rest_ok
def ct_i_reversed:Ct:=⟨[PK.ro mR],false,[(false,[RC.rows KR])],S.i_reversed,[]⟩
theorem v_i_reversed:Valid Tryz.prog gl 93 ct_i_reversed:=VV mixed tdOk [] [(7,[(23,dI),(22,dI),(5,Sp.rows (120) true KR),(6,dI),(3,Sp.dat false lR),(0,Sp.dat false mR),(18,dI),(17,dI)]),(4,[(18,dI),(17,dI),(0,Sp.dat false mR),(5,Sp.rows (120) true KR),(3,Sp.dat false lR)])] P.i_reversed (ctsCons v_i_rat_mul (ctsCons v_i_rat_over (ctsCons v_i_zeros (ctsCons v_i_rest cN)))) Tryz.func93 S.i_reversed_ok
def ct_i_sameRows11:Ct:=⟨[PK.bo KR,PK.bo KR],false,rB,S.i_sameRows11,[]⟩
theorem v_i_sameRows11:Valid Tryz.prog gl 152 ct_i_sameRows11:=VV mixed tdOk [] [] P.i_sameRows11 (ctsCons v_i_rat_cmp cN) Tryz.func152 S.i_sameRows11_ok
def ct_slices_EqualFunc__i_rat__i_rat_i_rat_i_rat:Ct:=⟨[PK.bo lR,PK.bo lR,PK.fn (152)],false,rB,S.slices_EqualFunc__i_rat__i_rat_i_rat_i_rat,[]⟩
theorem v_slices_EqualFunc__i_rat__i_rat_i_rat_i_rat:Valid Tryz.prog gl 151 ct_slices_EqualFunc__i_rat__i_rat_i_rat_i_rat:=VV mixed tdOk [] [(4,[(17,dI),(16,dI),(15,Sp.dat true lR),(1,Sp.dat true lR),(2,Sp.fn (152))])] P.slices_EqualFunc__i_rat__i_rat_i_rat_i_rat (ctsCons v_i_sameRows11 cN) Tryz.func151 S.slices_EqualFunc__i_rat__i_rat_i_rat_i_rat_ok
def ct_i_sameRows1:Ct:=⟨[PK.bo lR,PK.bo lR],false,rB,S.i_sameRows1,[]⟩
theorem v_i_sameRows1:Valid Tryz.prog gl 150 ct_i_sameRows1:=VV mixed tdOk [] [] P.i_sameRows1 (ctsCons v_i_sameRows11 (ctsCons v_slices_EqualFunc__i_rat__i_rat_i_rat_i_rat cN)) Tryz.func150 S.i_sameRows1_ok
def ct_slices_EqualFunc___i_rat___i_rat__i_rat__i_rat:Ct:=⟨[PK.bo mR,PK.bo mR,PK.fn (150)],false,rB,S.slices_EqualFunc___i_rat___i_rat__i_rat__i_rat,[]⟩
theorem v_slices_EqualFunc___i_rat___i_rat__i_rat__i_rat:Valid Tryz.prog gl 149 ct_slices_EqualFunc___i_rat___i_rat__i_rat__i_rat:=VV mixed tdOk [] [(4,[(17,dI),(16,dI),(15,Sp.dat true mR),(1,Sp.dat true mR),(2,Sp.fn (150))])] P.slices_EqualFunc___i_rat___i_rat__i_rat__i_rat (ctsCons v_i_sameRows1 cN) Tryz.func149 S.slices_EqualFunc___i_rat___i_rat__i_rat__i_rat_ok
def ct_i_sameRows:Ct:=⟨[PK.bo mR,PK.bo mR],false,rB,S.i_sameRows,[]⟩
theorem v_i_sameRows:Valid Tryz.prog gl 92 ct_i_sameRows:=VV mixed tdOk [] [] P.i_sameRows (ctsCons v_i_sameRows1 (ctsCons v_slices_EqualFunc___i_rat___i_rat__i_rat__i_rat cN)) Tryz.func92 S.i_sameRows_ok
def ct_i_IsReversible:Ct:=⟨[PK.bo (Kd.st mT)],false,rB,S.i_IsReversible,[]⟩
theorem v_i_IsReversible (hM:InM gl) (hR:InR gl) (hS:InS gl):Valid Tryz.prog gl 37 ct_i_IsReversible:=VV mixed tdOk [] [] P.i_IsReversible (ctsCons (v_i_chainOf hM hR hS) (ctsCons v_i_oneClass (ctsCons v_i_reversed (ctsCons v_i_sameRows cN)))) Tryz.func37 S.i_IsReversible_ok
def ct_l_FnExactIsReversible:Ct:=⟨[PK.bo (Kd.st mT)],false,rB,S.l_FnExactIsReversible,[]⟩
theorem v_l_FnExactIsReversible (hM:InM gl) (hR:InR gl) (hS:InS gl):Valid Tryz.prog gl 7 ct_l_FnExactIsReversible:=VV mixed tdOk [] [] P.l_FnExactIsReversible (ctsCons v_l_szChain (ctsCons v_l_toChain (ctsCons v_l_intactChain (ctsCons v_s_IsReversible (ctsCons (v_i_IsReversible hM hR hS) cN))))) Tryz.func7 S.l_FnExactIsReversible_ok
end Go.Cm.LnIsReversible
end
