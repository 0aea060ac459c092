import Derived.Test.YtdpljomfkoojnaaGreatDoorPlSharesOfRest
import Derived.Test.YtdpljomfkoojnaaGreatDoorChecked
import Derived.Test.YtdpljomfkoojnaaGreatDoorL4zShelf
import Derived.WalkKit
import Derived.BigCall
import Derived.BigGuard
import Derived.Lib.ItoaMem
import Derived.Lib.AppendIntMem
set_option linter.unusedVariables false
set_option maxRecDepth 100000
noncomputable section
namespace Go.Cm.LnSharesOfRest
open Go.RowKit
abbrev KR:Kd:=Kd.st (Kd.pair Kd.bool (Kd.pair (Kd.sl (Kd.int .u32)) (Kd.sl (Kd.int .u32))))
abbrev KS:Kd:=Kd.st (Kd.pair Kd.bool (Kd.pair (Kd.sl (Kd.int .i64)) (Kd.sl (Kd.int .i64))))
abbrev aI:=Kd.int .i64
abbrev aU:=Kd.int .u32
abbrev lI:=Kd.sl aI
abbrev lU:=Kd.sl aU
abbrev lR:=Kd.sl KR
abbrev lS:=Kd.sl KS
abbrev mR:=Kd.sl lR
abbrev mS:=Kd.sl lS
abbrev lT:=Kd.sl Kd.str
abbrev mT:=Kd.sl lT
abbrev dI:=Sp.dat false aI
abbrev dL:=Sp.dat false lI
abbrev pR:=PK.ro KR
abbrev pS:=PK.ro KS
abbrev pI:=PK.ro aI
abbrev rB:List RK:=[(false,[.ro .bool])]
variable {gl:List (Nat×List Value)}
def td:List (Nat×Td):=[(2,⟨Kd.int IntKind.i64,8,false,0,[]⟩),(3,⟨Kd.int IntKind.i64,8,false,0,[]⟩),(4,⟨Kd.bool,1,false,0,[]⟩),(5,⟨Kd.int IntKind.u8,1,false,0,[]⟩),(9,⟨Kd.str,16,false,0,[]⟩),(20,⟨Kd.er,16,false,0,[]⟩),(22,⟨Kd.sl lT,24,false,36,[]⟩),(24,⟨Kd.st mT,24,true,0,[(0,22)]⟩),(26,⟨Kd.sl aI,24,false,2,[]⟩),(29,⟨Kd.st mT,24,true,0,[(0,22)]⟩),(36,⟨Kd.sl Kd.str,24,false,9,[]⟩),(69,⟨Kd.sl lS,24,false,86,[]⟩),(71,⟨Kd.st mS,24,true,0,[(0,69)]⟩),(74,⟨Kd.pt (Kd.st mT),8,false,0,[]⟩),(77,⟨Kd.pt (Kd.st mS),8,false,0,[]⟩),(79,⟨Kd.sl lR,24,false,97,[]⟩),(82,⟨Kd.sl Kd.bool,24,false,4,[]⟩),(86,⟨Kd.sl KS,24,false,92,[]⟩),(92,⟨KS,56,true,0,[(0,4),(1,26),(2,26)]⟩),(97,⟨Kd.sl KR,24,false,104,[]⟩),(102,⟨Kd.sl aU,24,false,209,[]⟩),(104,⟨KR,56,true,0,[(0,4),(1,102),(2,102)]⟩),(166,⟨Kd.sl (Kd.sl Kd.bool),24,false,82,[]⟩),(170,⟨Kd.sl (Kd.int IntKind.u8),24,false,5,[]⟩),(172,⟨Kd.int IntKind.u64,8,false,0,[]⟩),(194,⟨Kd.int IntKind.u64,8,false,0,[]⟩),(199,⟨Kd.sl aI,24,false,3,[]⟩),(209,⟨Kd.int IntKind.u32,4,false,0,[]⟩),(224,⟨Kd.er,16,false,0,[]⟩)]
theorem a2p:a6i ⟨Go.Proofs.Tryz.prog,td,[],[],[]⟩ Go.Proofs.Tryz.prog:=a2o (tdN Go.Proofs.Tryz.underlying2) (a2o (tdN Go.Proofs.Tryz.underlying3) (a2o (tdN Go.Proofs.Tryz.underlying4) (a2o (tdN Go.Proofs.Tryz.underlying5) (a2o (tdN Go.Proofs.Tryz.underlying9) (a2o (tdN ⟨_,Go.Proofs.Tryz.underlying20⟩) (a2o (tdN Go.Proofs.Tryz.underlying22) (a2o (tdN ⟨_,Go.Proofs.Tryz.underlying24,by kernel_rfl,by kernel_rfl⟩) (a2o (tdN Go.Proofs.Tryz.underlying26) (a2o (tdN ⟨_,Go.Proofs.Tryz.underlying29,by kernel_rfl,by kernel_rfl⟩) (a2o (tdN Go.Proofs.Tryz.underlying36) (a2o (tdN Go.Proofs.Tryz.underlying69) (a2o (tdN ⟨_,Go.Proofs.Tryz.underlying71,by kernel_rfl,by kernel_rfl⟩) (a2o (.of (by kernel_rfl) (.inl rfl) rfl ⟨_,Go.Proofs.Tryz.underlying74⟩) (a2o (.of (by kernel_rfl) (.inl rfl) rfl ⟨_,Go.Proofs.Tryz.underlying77⟩) (a2o (tdN Go.Proofs.Tryz.underlying79) (a2o (tdN Go.Proofs.Tryz.underlying82) (a2o (tdN Go.Proofs.Tryz.underlying86) (a2o (tdN ⟨_,Go.Proofs.Tryz.underlying92,by kernel_rfl,by kernel_rfl⟩) (a2o (tdN Go.Proofs.Tryz.underlying97) (a2o (tdN Go.Proofs.Tryz.underlying102) (a2o (tdN ⟨_,Go.Proofs.Tryz.underlying104,by kernel_rfl,by kernel_rfl⟩) (a2o (tdN Go.Proofs.Tryz.underlying166) (a2o (tdN Go.Proofs.Tryz.underlying170) (a2o (tdN Go.Proofs.Tryz.underlying172) (a2o (tdN Go.Proofs.Tryz.underlying194) (a2o (tdN Go.Proofs.Tryz.underlying199) (a2o (tdN Go.Proofs.Tryz.underlying209) (a2o (tdN ⟨_,Go.Proofs.Tryz.underlying224⟩) (tdsNil _ _ _ _)))))))))))))))))))))))))))))
theorem mixed:Go.Proofs.Tryz.prog.follows .mixedOrders=true:=by kernel_rfl
def InP (gl:List (Nat×List Value)):Prop:=(3,Go.Lib.pow10Tab.map fun z=>Value.int .u64 z)∈gl
def InM (gl:List (Nat×List Value)):Prop:=∃m,(0,[Value.int .i64 m])∈gl
def InS (gl:List (Nat×List Value)):Prop:=∃t p,(1,[Value.iface t p])∈gl
def InR (gl:List (Nat×List Value)):Prop:=∃t p,(2,[Value.iface t p])∈gl
def ct_l_szStringS:Ct:=⟨[PK.bo lT,pI],false,[(false,[RC.ro aI])],S.b0i,[]⟩
theorem v_l_szStringS:a0m Go.Proofs.Tryz.prog gl 24 ct_l_szStringS:=VV mixed a2p [] [(5,[(5,dI),(0,Sp.dat true lT),(1,dI)])] P.c0w (a0i _ _ _ _ _) Go.Proofs.Tryz.func24 S.l_szStringS_ok
def d0g:Ct:=⟨[PK.bo mT,pI],false,[(false,[RC.ro aI])],S.a8e,[]⟩
theorem v_l_szStringSS:a0m Go.Proofs.Tryz.prog gl 60 d0g:=VV mixed a2p [] [(5,[(5,dI),(0,Sp.dat true mT),(1,dI)])] P.b8d (a0c v_l_szStringS (a0i _ _ _ _ _)) Go.Proofs.Tryz.func60 S.c8z
def ct_l_szChain:Ct:=⟨[PK.bo (Kd.st mT),pI],false,[(false,[RC.ro aI])],S.b8e,[]⟩
theorem v_l_szChain:a0m Go.Proofs.Tryz.prog gl 15 ct_l_szChain:=VV mixed a2p [] [] P.c1z (a0c v_l_szStringSS (a0i _ _ _ _ _)) Go.Proofs.Tryz.func15 S.l_szChain_ok
def ct_l_eqStringS:Ct:=⟨[PK.bo lT,PK.bo lT],false,rB,S.a2l,[]⟩
theorem b7e:a0m Go.Proofs.Tryz.prog gl 28 ct_l_eqStringS:=VV mixed a2p [] [(4,[(5,dI),(0,Sp.dat true lT),(1,Sp.dat true lT)])] P.c0x (a0i _ _ _ _ _) Go.Proofs.Tryz.func28 S.l_eqStringS_ok
def ct_l_markText:Ct:=⟨[pI],false,[(false,[RC.ro Kd.str])],S.a6q,[]⟩
theorem c6q:a0m Go.Proofs.Tryz.prog gl 82 ct_l_markText:=VV mixed a2p [] [(4,[(0,dI),(3,Sp.dat false Kd.str)])] P.b9s (a0i _ _ _ _ _) Go.Proofs.Tryz.func82 S.l_markText_ok
def c7j:Ct:=⟨[PK.mu Kd.str,pI],false,[(false,[RC.ro aI])],S.a3n,[]⟩
theorem b8s:a0m Go.Proofs.Tryz.prog gl 30 c7j:=VV mixed a2p [] [(2,[(5,dI),(0,Sp.own (0) false Kd.str),(1,dI)])] P.b6m (a0c c6q (a0i _ _ _ _ _)) Go.Proofs.Tryz.func30 S.c6y
def c7k:Ct:=⟨[PK.bo lT,pI],false,[(false,[RC.ro aI])],S.a5b,[]⟩
theorem d0h:a0m Go.Proofs.Tryz.prog gl 31 c7k:=VV mixed a2p [] [(2,[(5,dI),(0,Sp.dat true lT),(1,dI)])] P.b6n (a0c c6q (a0i _ _ _ _ _)) Go.Proofs.Tryz.func31 S.c6z
def d0i:Ct:=⟨[pI],false,[(false,[RC.ro aI])],S.a1x,[]⟩
theorem b1g:a0m Go.Proofs.Tryz.prog gl 74 d0i:=VV mixed a2p [] [] P.a8f (a0i _ _ _ _ _) Go.Proofs.Tryz.func74 S.c9a
def c2o:Ct:=⟨[PK.bo (Kd.sv Kd.str),PK.bo (Kd.sv Kd.str)],false,rB,S.a5z,[]⟩
theorem c4q:a0m Go.Proofs.Tryz.prog gl 29 c2o:=VV mixed a2p [] [] P.a8w (a0c b1g (a0c b7e (a0i _ _ _ _ _))) Go.Proofs.Tryz.func29 S.c2a
def d0j:Ct:=⟨[PK.bo mT,PK.bo mT],false,rB,S.b1p,[]⟩
theorem v_l_eqStringSS:a0m Go.Proofs.Tryz.prog gl 104 d0j:=VV mixed a2p [] [(4,[(5,dI),(0,Sp.dat true mT),(1,Sp.dat true mT)])] P.b8f (a0c b7e (a0i _ _ _ _ _)) Go.Proofs.Tryz.func104 S.c9b
def c1g:Ct:=⟨[PK.bo (Kd.sv (Kd.sv Kd.str)),PK.bo (Kd.sv (Kd.sv Kd.str))],false,rB,S.a4e,[]⟩
theorem c2p:a0m Go.Proofs.Tryz.prog gl 66 c1g:=VV mixed a2p [] [(5,[(6,dI),(1,Sp.dat true (Kd.sv (Kd.sv Kd.str))),(0,Sp.dat true (Kd.sv (Kd.sv Kd.str))),(5,dI)])] P.b2f (a0c b1g (a0c c4q (a0c v_l_eqStringSS (a0i _ _ _ _ _)))) Go.Proofs.Tryz.func66 S.c0y
def c7l:Ct:=⟨[PK.bo (Kd.st (Kd.sv (Kd.sv Kd.str))),PK.bo (Kd.st (Kd.sv (Kd.sv Kd.str)))],false,rB,S.a8y,[]⟩
theorem d0k:a0m Go.Proofs.Tryz.prog gl 20 c7l:=VV mixed a2p [] [] P.b2r (a0c c2p (a0i _ _ _ _ _)) Go.Proofs.Tryz.func20 S.c7b
def c4r:Ct:=⟨[PK.mr Kd.str,pI],false,[(false,[RC.ro aI])],S.a7b,[]⟩
theorem c7m:a0m Go.Proofs.Tryz.prog gl 67 c4r:=VV mixed a2p [] [(2,[(5,dI),(0,Sp.rows (0) false Kd.str),(1,dI)])] P.b5m (a0c b8s (a0i _ _ _ _ _)) Go.Proofs.Tryz.func67 S.c4a
def ct_l_markChain:Ct:=⟨[PK.mr Kd.str,pI],false,[(false,[RC.ro aI])],S.b3t,[1,0]⟩
theorem v_l_markChain:a0m Go.Proofs.Tryz.prog gl 21 ct_l_markChain:=VV mixed a2p [] [] P.b6o (a0c c7m (a0i _ _ _ _ _)) Go.Proofs.Tryz.func21 S.l_markChain_ok
def d0l:Ct:=⟨[PK.bo lT,PK.ro Kd.bool],false,[(false,[RC.ov Kd.str])],S.a6b,[]⟩
theorem v_l_toStringSo:a0m Go.Proofs.Tryz.prog gl 26 d0l:=VV mixed a2p [] [(9,[(7,dI),(5,Sp.own (160) true Kd.str),(0,Sp.dat true lT)]),(5,[(6,dI),(0,Sp.dat true lT),(5,Sp.own (160) true Kd.str)])] P.b8h (a0c b1g (a0i _ _ _ _ _)) Go.Proofs.Tryz.func26 S.c9d
def c7n:Ct:=⟨[PK.bo mT,PK.ro Kd.bool],false,[(false,[RC.rows Kd.str])],S.a8z,[]⟩
theorem d0m:a0m Go.Proofs.Tryz.prog gl 63 c7n:=VV mixed a2p [1000020] [(9,[(7,dI),(5,Sp.rows (160) true Kd.str),(0,Sp.dat true mT)]),(5,[(6,dI),(0,Sp.dat true mT),(5,Sp.rows (160) true Kd.str),(1,Sp.dat false Kd.bool)])] P.b6p (a0c b1g (a0c v_l_toStringSo (a0i _ _ _ _ _))) Go.Proofs.Tryz.func63 S.c7c
def ct_l_toChaino:Ct:=⟨[PK.bo (Kd.st mT),PK.ro Kd.bool],false,[(true,[RC.rows Kd.str])],S.a8g,[]⟩
theorem v_l_toChaino:a0m Go.Proofs.Tryz.prog gl 17 ct_l_toChaino:=VV mixed a2p [] [] P.b9t (a0c d0m (a0i _ _ _ _ _)) Go.Proofs.Tryz.func17 S.l_toChaino_ok
def ct_s_l01Dec:Ct:=⟨[pI],false,[(false,[RC.ro Kd.str])],S.b6q,[]⟩
theorem v_s_l01Dec:a0m Go.Proofs.Tryz.prog gl 217 ct_s_l01Dec:=VV mixed a2p [] [(3,[(3,Sp.dat false (Kd.sl (Kd.int IntKind.u8))),(4,dI),(0,dI)])] P.s_l01Dec (a0i _ _ _ _ _) Go.Proofs.Tryz.func217 S.s_l01Dec_ok
def d0n:Ct:=⟨[PK.bo lI],false,[(false,[RC.ro Kd.str])],S.a3r,[]⟩
theorem c0q:a0m Go.Proofs.Tryz.prog gl 199 d0n:=VV mixed a2p [] [(5,[(4,dI),(0,Sp.dat true lI),(3,Sp.dat false Kd.str)])] P.b8i (a0c v_s_l01Dec (a0i _ _ _ _ _)) Go.Proofs.Tryz.func199 S.c9e
def ct_s_l01Fits:Ct:=⟨[PK.bo KS],false,rB,S.c2c,[]⟩
theorem v_s_l01Fits:a0m Go.Proofs.Tryz.prog gl 179 ct_s_l01Fits:=VV mixed a2p [] [] P.c2b (a0c c0q (a0i _ _ _ _ _)) Go.Proofs.Tryz.func179 S.s_l01Fits_ok
def ct_s_l01Cmp:Ct:=⟨[PK.bo lI,PK.bo lI],false,[(false,[RC.ro aI])],S.a0n,[]⟩
theorem b3p:a0m Go.Proofs.Tryz.prog gl 147 ct_s_l01Cmp:=VV mixed a2p [] [(6,[(5,dI),(0,Sp.dat true lI),(1,Sp.dat true lI)])] P.s_l01Cmp (a0i _ _ _ _ _) Go.Proofs.Tryz.func147 S.s_l01Cmp_ok
def ct_s_l01Show:Ct:=⟨[PK.bo KS],false,[(false,[RC.ro Kd.str])],S.c2e,[]⟩
theorem v_s_l01Show:a0m Go.Proofs.Tryz.prog gl 180 ct_s_l01Show:=VV mixed a2p [] [] P.c2d (a0c b3p (a0c c0q (a0i _ _ _ _ _))) Go.Proofs.Tryz.func180 S.s_l01Show_ok
def ct_s_l01Give:Ct:=⟨[PK.bo KS],true,[(false,[RC.ro Kd.str]),(false,[RC.ro Kd.bool])],S.b3u,[]⟩
theorem v_s_l01Give:a0m Go.Proofs.Tryz.prog gl 128 ct_s_l01Give:=VV mixed a2p [] [] P.c9f (a0c v_s_l01Fits (a0c v_s_l01Show (a0i _ _ _ _ _))) Go.Proofs.Tryz.func128 S.s_l01Give_ok
def d0o:Ct:=⟨[PK.bo lS],true,[(false,[RC.own Kd.str]),(false,[RC.ro Kd.bool])],S.a8h,[]⟩
theorem v_s_l01GiveAll:a0m Go.Proofs.Tryz.prog gl 72 d0o:=VV mixed a2p [] [(3,[(11,dI),(10,dI),(0,Sp.dat true lS),(4,Sp.own (64) true Kd.str)])] P.b8j (a0c v_s_l01Give (a0i _ _ _ _ _)) Go.Proofs.Tryz.func72 S.c9g
def ct_s_l01Cut:Ct:=⟨[PK.ro Kd.str,PK.ro (Kd.int IntKind.u8)],false,[(false,[RC.own Kd.str])],S.a7q,[]⟩
theorem v_s_l01Cut:a0m Go.Proofs.Tryz.prog gl 161 ct_s_l01Cut:=VV mixed a2p [] [(4,[(7,dI),(0,Sp.dat false Kd.str),(1,Sp.dat false (Kd.int IntKind.u8)),(5,Sp.own (64) true Kd.str),(6,dI)])] P.s_l01Cut (a0i _ _ _ _ _) Go.Proofs.Tryz.func161 S.s_l01Cut_ok
def ct_s_l01Trim:Ct:=⟨[PK.ro lI],false,[(false,[RC.ro lI])],S.a3v,[]⟩
theorem b4b:a0m Go.Proofs.Tryz.prog gl 191 ct_s_l01Trim:=VV mixed a2p [] [(1,[(0,dL)])] P.s_l01Trim (a0i _ _ _ _ _) Go.Proofs.Tryz.func191 S.s_l01Trim_ok
def ct_s_l01Nat:Ct:=⟨[pI],false,[(false,[RC.ro lI])],S.a6s,[]⟩
theorem v_s_l01Nat:a0m Go.Proofs.Tryz.prog gl 194 ct_s_l01Nat:=VV mixed a2p [] [(2,[(0,dI),(3,Sp.own (32) true aI)])] P.s_l01Nat (a0i _ _ _ _ _) Go.Proofs.Tryz.func194 S.s_l01Nat_ok
def ct_s_l01Digit:Ct:=⟨[PK.bo lI,pI],false,[(false,[RC.ro aI])],S.a1r,[]⟩
theorem b8t:a0m Go.Proofs.Tryz.prog gl 193 ct_s_l01Digit:=VV mixed a2p [] [] P.b3k (a0i _ _ _ _ _) Go.Proofs.Tryz.func193 S.s_l01Digit_ok
def ct_s_l01Small:Ct:=⟨[PK.bo lI],true,[(false,[RC.ro aI]),(false,[RC.ro Kd.bool])],S.a6t,[]⟩
theorem v_s_l01Small:a0m Go.Proofs.Tryz.prog gl 209 ct_s_l01Small:=VV mixed a2p [] [] P.c4b (a0c b8t (a0i _ _ _ _ _)) Go.Proofs.Tryz.func209 S.s_l01Small_ok
def c7o:Ct:=⟨[PK.bo lI,pI],false,[(false,[RC.own aI])],S.a1y,[]⟩
theorem d0p:a0m Go.Proofs.Tryz.prog gl 211 c7o:=VV mixed a2p [] [(4,[(16,dI),(15,dI),(14,Sp.dat true lI),(1,dI),(6,dI),(5,Sp.own (104) true aI)])] P.b6u (a0i _ _ _ _ _) Go.Proofs.Tryz.func211 S.c7d
def c7p:Ct:=⟨[PK.bo lI,pI],true,[(false,[RC.ro lI]),(false,[RC.ro aI])],S.a2u,[]⟩
theorem d0q:a0m Go.Proofs.Tryz.prog gl 210 c7p:=VV mixed a2p [] [(4,[(8,dI),(7,dI),(0,Sp.dat true lI),(6,Sp.own (96) true aI),(1,dI)])] P.b6v (a0c b4b (a0i _ _ _ _ _)) Go.Proofs.Tryz.func210 S.c7e
def d0r:Ct:=⟨[PK.mu aI,PK.bo lI,pI,pI],false,rB,S.a4x,[]⟩
theorem v_s_l01TakeOff:a0m Go.Proofs.Tryz.prog gl 212 d0r:=VV mixed a2p [] [(3,[(15,dI),(14,dI),(13,Sp.dat true lI),(0,Sp.own (0) false aI),(2,dI),(3,dI),(9,dI),(1,Sp.dat true lI)])] P.b4u (a0i _ _ _ _ _) Go.Proofs.Tryz.func212 S.c9h
def d0s:Ct:=⟨[PK.mu aI,PK.bo lI,pI],true,[],S.a4y,[]⟩
theorem v_s_l01PutBack:a0m Go.Proofs.Tryz.prog gl 213 d0s:=VV mixed a2p [] [(2,[(12,dI),(11,dI),(10,Sp.dat true lI),(0,Sp.own (0) false aI),(2,dI),(6,dI),(1,Sp.dat true lI)])] P.b4v (a0i _ _ _ _ _) Go.Proofs.Tryz.func213 S.c9i
def ct_s_l01NatDiv:Ct:=⟨[PK.bo lI,PK.bo lI],true,[(false,[RC.ro lI]),(false,[RC.ro lI])],S.a4k,[]⟩
theorem c2q:a0m Go.Proofs.Tryz.prog gl 192 ct_s_l01NatDiv:=VV mixed a2p [] [(21,[(19,dI),(14,dL),(15,dI),(20,dI),(13,Sp.own (624) true aI),(17,dI),(16,Sp.own (744) true aI),(12,dI)]),(17,[(17,dI),(13,Sp.own (624) true aI),(15,dI),(14,dL),(16,Sp.own (744) true aI),(12,dI)])] P.c0z (a0c b4b (a0c v_s_l01Nat (a0c b3p (a0c v_s_l01Small (a0c d0p (a0c d0q (a0c v_s_l01TakeOff (a0c v_s_l01PutBack (a0i _ _ _ _ _))))))))) Go.Proofs.Tryz.func192 S.s_l01NatDiv_ok
def ct_s_l01Gcd:Ct:=⟨[PK.ro lI,PK.ro lI],false,[(false,[RC.ro lI])],S.a3f,[]⟩
theorem v_s_l01Gcd:a0m Go.Proofs.Tryz.prog gl 164 ct_s_l01Gcd:=VV mixed a2p [] [(1,[(1,dL),(0,dL)])] P.s_l01Gcd (a0c c2q (a0i _ _ _ _ _)) Go.Proofs.Tryz.func164 S.s_l01Gcd_ok
def d0t:Ct:=⟨[PK.ro Kd.str],false,[(false,[RC.ro lI])],S.a0r,[]⟩
theorem v_s_l01NatRead:a0m Go.Proofs.Tryz.prog gl 163 d0t:=VV mixed a2p [] [(10,[(7,dI),(4,dI),(6,dI),(0,Sp.dat false Kd.str),(3,Sp.own (64) true aI)]),(3,[(4,dI),(0,Sp.dat false Kd.str),(3,Sp.own (64) true aI)])] P.b8k (a0c b4b (a0i _ _ _ _ _)) Go.Proofs.Tryz.func163 S.c9j
def ct_s_l01Digits:Ct:=⟨[PK.ro Kd.str],false,rB,S.a0v,[]⟩
theorem v_s_l01Digits:a0m Go.Proofs.Tryz.prog gl 162 ct_s_l01Digits:=VV mixed a2p [] [(2,[(3,dI),(0,Sp.dat false Kd.str)])] P.c1b (a0i _ _ _ _ _) Go.Proofs.Tryz.func162 S.s_l01Digits_ok
def ct_s_l01Parse:Ct:=⟨[PK.ro Kd.str],true,[(true,[RC.ro KS]),(false,[RC.ro Kd.bool])],S.b3l,[]⟩
theorem v_s_l01Parse:a0m Go.Proofs.Tryz.prog gl 110 ct_s_l01Parse:=VV mixed a2p [] [] P.c4c (a0c v_s_l01Cut (a0c b3p (a0c v_s_l01Gcd (a0c v_s_l01NatRead (a0c v_s_l01Digits (a0i _ _ _ _ _)))))) Go.Proofs.Tryz.func110 S.s_l01Parse_ok
def ct_s_l01List:Ct:=⟨[PK.bo lT],true,[(false,[RC.ro lS]),(false,[RC.ro Kd.bool])],S.b5u,[]⟩
theorem v_s_l01List:a0m Go.Proofs.Tryz.prog gl 68 ct_s_l01List:=VV mixed a2p [] [(5,[(14,dI),(13,dI),(0,Sp.dat true lT),(4,Sp.own (88) true KS)])] P.c9k (a0c v_s_l01Parse (a0i _ _ _ _ _)) Go.Proofs.Tryz.func68 S.s_l01List_ok
def ct_s_l01Int:Ct:=⟨[pI],false,[(true,[RC.ro KS])],S.c2f,[]⟩
theorem v_s_l01Int:a0m Go.Proofs.Tryz.prog gl 168 ct_s_l01Int:=VV mixed a2p [] [] P.s_l01Int (a0c v_s_l01Nat (a0i _ _ _ _ _)) Go.Proofs.Tryz.func168 S.s_l01Int_ok
def ct_s_l01One:Ct:=⟨[],false,[(true,[RC.ro KS])],S.b2s,[]⟩
theorem v_s_l01One:a0m Go.Proofs.Tryz.prog gl 114 ct_s_l01One:=VV mixed a2p [] [] P.s_l01One (a0c v_s_l01Int (a0i _ _ _ _ _)) Go.Proofs.Tryz.func114 S.s_l01One_ok
def ct_s_l01NatMul:Ct:=⟨[PK.bo lI,PK.bo lI],false,[(false,[RC.ro lI])],S.a1c,[]⟩
theorem b2x:a0m Go.Proofs.Tryz.prog gl 148 ct_s_l01NatMul:=VV mixed a2p [] [(7,[(23,dI),(22,dI),(5,Sp.own (120) true aI),(6,dI),(0,Sp.dat true lI),(1,Sp.dat true lI),(7,dI),(18,dI),(17,dI)]),(3,[(18,dI),(17,dI),(1,Sp.dat true lI),(5,Sp.own (120) true aI),(0,Sp.dat true lI)])] P.c1c (a0c b4b (a0i _ _ _ _ _)) Go.Proofs.Tryz.func148 S.s_l01NatMul_ok
def ct_s_l01Equal:Ct:=⟨[PK.bo KS,PK.bo KS],false,rB,S.b0j,[]⟩
theorem v_s_l01Equal:a0m Go.Proofs.Tryz.prog gl 90 ct_s_l01Equal:=VV mixed a2p [] [] P.c4d (a0c b3p (a0c b2x (a0i _ _ _ _ _))) Go.Proofs.Tryz.func90 S.s_l01Equal_ok
def ct_s_l01None:Ct:=⟨[],false,[(true,[RC.ro KS])],S.b5v,[]⟩
theorem d0u:a0m Go.Proofs.Tryz.prog gl 123 ct_s_l01None:=VV mixed a2p [] [] P.c9l (a0c v_s_l01Int (a0i _ _ _ _ _)) Go.Proofs.Tryz.func123 S.s_l01None_ok
def ct_s_l01NatAdd:Ct:=⟨[PK.bo lI,PK.bo lI],false,[(false,[RC.ro lI])],S.b0k,[]⟩
theorem v_s_l01NatAdd:a0m Go.Proofs.Tryz.prog gl 156 ct_s_l01NatAdd:=VV mixed a2p [] [(4,[(7,dI),(0,Sp.dat true lI),(1,Sp.dat true lI),(6,dI),(5,Sp.own (72) true aI)])] P.c1d (a0c b8t (a0i _ _ _ _ _)) Go.Proofs.Tryz.func156 S.s_l01NatAdd_ok
def d0v:Ct:=⟨[PK.bo lI,PK.bo lI],false,[(false,[RC.ro lI])],S.a6d,[]⟩
theorem v_s_l01NatLess:a0m Go.Proofs.Tryz.prog gl 157 d0v:=VV mixed a2p [] [(4,[(12,dI),(11,dI),(0,Sp.dat true lI),(1,Sp.dat true lI),(6,dI),(5,Sp.own (72) true aI)])] P.b8l (a0c b4b (a0c b8t (a0i _ _ _ _ _))) Go.Proofs.Tryz.func157 S.c9m
def ct_s_l01Make:Ct:=⟨[PK.ro Kd.bool,PK.ro lI,PK.ro lI],false,[(true,[RC.ro KS])],S.a5j,[]⟩
theorem c1h:a0m Go.Proofs.Tryz.prog gl 155 ct_s_l01Make:=VV mixed a2p [] [] P.c9n (a0c b3p (a0c c2q (a0c v_s_l01Gcd (a0i _ _ _ _ _)))) Go.Proofs.Tryz.func155 S.s_l01Make_ok
def ct_s_l01Sum:Ct:=⟨[PK.bo KS,PK.bo KS],false,[(true,[RC.ro KS])],S.a9h,[]⟩
theorem v_s_l01Sum:a0m Go.Proofs.Tryz.prog gl 97 ct_s_l01Sum:=VV mixed a2p [] [] P.s_l01Sum (a0c b3p (a0c b2x (a0c v_s_l01NatAdd (a0c v_s_l01NatLess (a0c c1h (a0i _ _ _ _ _)))))) Go.Proofs.Tryz.func97 S.s_l01Sum_ok
def ct_s_l01Total:Ct:=⟨[PK.bo lS],false,[(true,[RC.ro KS])],S.b3m,[]⟩
theorem v_s_l01Total:a0m Go.Proofs.Tryz.prog gl 71 ct_s_l01Total:=VV mixed a2p [] [(3,[(8,dI),(7,dI),(3,Sp.var (24) KS),(0,Sp.dat true lS),(2,Sp.var (16) KS)])] P.c4e (a0c d0u (a0c v_s_l01Sum (a0i _ _ _ _ _))) Go.Proofs.Tryz.func71 S.s_l01Total_ok
def c7q:Ct:=⟨[PK.bo lS],false,rB,S.a9i,[]⟩
theorem d0w:a0m Go.Proofs.Tryz.prog gl 69 c7q:=VV mixed a2p [] [(2,[(6,dI),(5,dI),(0,Sp.dat true lS)])] P.b6x (a0i _ _ _ _ _) Go.Proofs.Tryz.func69 S.c7f
def d0x:Ct:=⟨[PK.bo lS],false,rB,S.a8i,[]⟩
theorem v_s_l01Weights:a0m Go.Proofs.Tryz.prog gl 133 d0x:=VV mixed a2p [] [] P.b8m (a0c v_s_l01One (a0c v_s_l01Equal (a0c v_s_l01Total (a0c d0w (a0i _ _ _ _ _))))) Go.Proofs.Tryz.func133 S.c9o
def ct_s_l03Parse:Ct:=⟨[PK.bo (Kd.pt (Kd.st mT))],true,[(true,[RC.ro (Kd.st mS)]),(false,[RC.ro Kd.bool])],S.b3n,[]⟩
theorem v_s_l03Parse:a0m Go.Proofs.Tryz.prog gl 61 ct_s_l03Parse:=VV mixed a2p [] [(6,[(27,dI),(26,dI),(0,Sp.dat true (Kd.pt (Kd.st mT))),(4,dI),(2,Sp.var (16) (Kd.st mS)),(5,Sp.vow (40) (512) lS)])] P.c4f (a0c v_s_l01List (a0c v_s_l01Weights (a0i _ _ _ _ _))) Go.Proofs.Tryz.func61 S.s_l03Parse_ok
def c7r:Ct:=⟨[pS],false,[(true,[RC.ro KS])],S.a6u,[]⟩
theorem d0y:a0m Go.Proofs.Tryz.prog gl 167 c7r:=VV mixed a2p [] [] P.b6y (a0i _ _ _ _ _) Go.Proofs.Tryz.func167 S.c7g
def ct_s_l01Minus:Ct:=⟨[pS,pS],false,[(true,[RC.ro KS])],S.a6v,[]⟩
theorem c6r:a0m Go.Proofs.Tryz.prog gl 113 ct_s_l01Minus:=VV mixed a2p [] [] P.s_l01Minus (a0c d0y (a0c v_s_l01Sum (a0i _ _ _ _ _))) Go.Proofs.Tryz.func113 S.s_l01Minus_ok
def ct_s_l00Has:Ct:=⟨[PK.bo lI,pI],false,rB,S.b2v,[]⟩
theorem v_s_l00Has:a0m Go.Proofs.Tryz.prog gl 135 ct_s_l00Has:=VV mixed a2p [] [(2,[(5,dI),(0,Sp.dat true lI),(1,dI)])] P.s_l00Has (a0i _ _ _ _ _) Go.Proofs.Tryz.func135 S.s_l00Has_ok
def ct_s_l00Put:Ct:=⟨[PK.ro lI,pI],false,[(false,[RC.ro lI])],S.b9u,[]⟩
theorem v_s_l00Put:a0m Go.Proofs.Tryz.prog gl 145 ct_s_l00Put:=VV mixed a2p [] [(4,[(7,dI),(0,dL),(6,Sp.dat false Kd.bool),(1,dI),(5,Sp.own (64) true aI)])] P.s_l00Put (a0i _ _ _ _ _) Go.Proofs.Tryz.func145 S.s_l00Put_ok
def ct_s_l01Zero:Ct:=⟨[PK.bo KS],false,rB,S.a9j,[]⟩
theorem d0z:a0m Go.Proofs.Tryz.prog gl 70 ct_s_l01Zero:=VV mixed a2p [] [] P.b8n (a0i _ _ _ _ _) Go.Proofs.Tryz.func70 S.s_l01Zero_ok
def ct_s_l03Reach:Ct:=⟨[PK.bo (Kd.pt (Kd.st mS)),pI],false,[(false,[RC.ro lI])],S.b0l,[]⟩
theorem v_s_l03Reach:a0m Go.Proofs.Tryz.prog gl 134 ct_s_l03Reach:=VV mixed a2p [] [(7,[(24,dI),(23,dI),(0,Sp.dat true (Kd.pt (Kd.st mS))),(5,Sp.own (80) true aI),(7,dI),(6,dL)]),(4,[(7,dI),(5,Sp.own (80) true aI),(0,Sp.dat true (Kd.pt (Kd.st mS))),(6,dL)])] P.c4g (a0c v_s_l00Has (a0c v_s_l00Put (a0c d0z (a0i _ _ _ _ _)))) Go.Proofs.Tryz.func134 S.s_l03Reach_ok
def d1a:Ct:=⟨[PK.bo (Kd.pt (Kd.st mS))],true,[(false,[RC.own aI]),(false,[RC.ro lI])],S.a8r,[]⟩
theorem v_s_l03Classes:a0m Go.Proofs.Tryz.prog gl 62 d1a:=VV mixed a2p [] [(16,[(43,dI),(42,dI),(0,Sp.dat true (Kd.pt (Kd.st mS))),(9,dL),(8,dI),(4,Sp.own (136) true aI),(7,dI),(10,Sp.dat false Kd.bool),(6,Sp.own (216) true aI),(30,dI),(29,dI)]),(10,[(30,dI),(29,dI),(4,Sp.own (136) true aI),(0,Sp.dat true (Kd.pt (Kd.st mS))),(7,dI),(6,Sp.own (216) true aI)]),(3,[(20,dI),(19,dI),(4,Sp.own (136) true aI),(0,Sp.dat true (Kd.pt (Kd.st mS)))])] P.b9p (a0c v_s_l00Has (a0c v_s_l03Reach (a0i _ _ _ _ _))) Go.Proofs.Tryz.func62 S.s_l03Classes_ok
def ct_s_l01Times:Ct:=⟨[PK.bo KS,PK.bo KS],false,[(true,[RC.ro KS])],S.b0x,[]⟩
theorem v_s_l01Times:a0m Go.Proofs.Tryz.prog gl 112 ct_s_l01Times:=VV mixed a2p [] [] P.c5u (a0c b2x (a0c c1h (a0i _ _ _ _ _))) Go.Proofs.Tryz.func112 S.s_l01Times_ok
def ct_s_l01Over:Ct:=⟨[PK.bo KS,PK.bo KS],false,[(true,[RC.ro KS])],S.b1y,[]⟩
theorem v_s_l01Over:a0m Go.Proofs.Tryz.prog gl 98 ct_s_l01Over:=VV mixed a2p [] [] P.s_l01Over (a0c b2x (a0c c1h (a0i _ _ _ _ _))) Go.Proofs.Tryz.func98 S.s_l01Over_ok
def ct_s_l03Swap:Ct:=⟨[PK.mr KS,pI,pI],true,[],S.b6j,[]⟩
theorem v_s_l03Swap:a0m Go.Proofs.Tryz.prog gl 198 ct_s_l03Swap:=VV mixed a2p [] [] P.c3r (a0i _ _ _ _ _) Go.Proofs.Tryz.func198 S.s_l03Swap_ok
def ct_s_l03Solve:Ct:=⟨[PK.mr KS],true,[(false,[RC.ro lS]),(false,[RC.ro Kd.bool])],S.b3r,[]⟩
theorem v_s_l03Solve:a0m Go.Proofs.Tryz.prog gl 178 ct_s_l03Solve:=VV mixed a2p [] [(22,[(11,dI),(4,dI),(10,Sp.own (832) true KS),(0,Sp.rows (0) false KS)]),(17,[(9,dI),(4,dI),(0,Sp.rows (0) false KS),(7,dI),(8,Sp.var (64) KS),(5,dI)]),(12,[(7,dI),(4,dI),(5,dI),(0,Sp.rows (0) false KS)]),(6,[(6,dI),(4,dI),(0,Sp.rows (0) false KS),(5,dI)]),(3,[(5,dI),(4,dI),(0,Sp.rows (0) false KS)])] P.c5v (a0c d0z (a0c c6r (a0c v_s_l01Times (a0c v_s_l01Over (a0c v_s_l03Swap (a0i _ _ _ _ _)))))) Go.Proofs.Tryz.func178 S.s_l03Solve_ok
def ct_s_l03Rest:Ct:=⟨[PK.pm (Kd.st mS)],true,[(false,[RC.ro lS]),(false,[RC.ro Kd.bool])],S.b6k,[]⟩
theorem v_s_l03Rest:a0m Go.Proofs.Tryz.prog gl 126 ct_s_l03Rest:=VV mixed a2p [1000026,1000074] [(11,[(10,dI),(6,dI),(0,Sp.pm (Kd.st mS)),(8,dI),(9,Sp.own (256) true KS),(7,Sp.rows (208) true KS)]),(7,[(8,dI),(6,dI),(0,Sp.pm (Kd.st mS)),(7,Sp.rows (208) true KS)])] P.s_l03Rest (a0c v_s_l01One (a0c d0u (a0c c6r (a0c v_s_l03Classes (a0c v_s_l03Solve (a0i _ _ _ _ _)))))) Go.Proofs.Tryz.func126 S.s_l03Rest_ok
def c4s:Ct:=⟨[PK.bo (Kd.st mT)],true,[(false,[RC.own Kd.str]),(false,[RC.ro Kd.bool])],S.a7l,[]⟩
theorem c7s:a0m Go.Proofs.Tryz.prog gl 56 c4s:=VV mixed a2p [] [] P.b1n (a0c v_s_l01GiveAll (a0c v_s_l03Parse (a0c v_s_l03Rest (a0i _ _ _ _ _)))) Go.Proofs.Tryz.func56 S.c5w
def b8u:Ct:=⟨[PK.ro (Kd.int IntKind.u64),pI],false,[(false,[RC.ro Kd.str])],S.a4i,[]⟩
set_option maxHeartbeats 6400000 in
set_option maxRecDepth 100000 in
open Go.Proofs Go.Shelf Go.RowKit Go.Sort Go.Lib in
theorem fu_small (i:Nat) (hi:i<100) (w:World):
  Calls Go.Proofs.Tryz.prog 222 #[.int .u64 i, .int .i64 10] w fun e w'=>e= .returned (.string ⟨(Lib.decDigits i).toArray⟩)∧w'=w:=by
 have eSm:∀args w,(callFunc 239 args).run Go.Proofs.Tryz.prog w= .ok (.enter 239 args) w:=Go.Proofs.enters_of Go.Proofs.Tryz.func239 (by kernel_rfl) rfl
 go_enter Go.Proofs.Tryz.func222,Go.Proofs.Tryz.ntmps222
 go_wp2_with (go_at_fn 239;refine(Go.Proofs.Tryz.internal_strconv_small i hi _).mono ?_;rintro e w' ⟨rfl,rfl⟩)
 go_ret
 exact⟨rfl,rfl⟩
set_option maxHeartbeats 12800000 in
set_option maxRecDepth 100000 in
open Go.Proofs Go.Shelf Go.RowKit Go.Sort Go.Lib in
theorem fu_big (u:Nat) (hu:100≤u) (hu64:u<18446744073709551616) (w:World)
  (htab:Lib.TabIs Go.Proofs.Tryz.prog w "internal/strconv.uint64pow10" .u64 Lib.pow10Tab):
  Calls Go.Proofs.Tryz.prog 222 #[.int .u64 u, .int .i64 10] w fun e w'=>e= .returned (.string ⟨(Lib.decDigits u).toArray⟩)∧∃k os,w'=grow (w.drewN k) os:=by
 have eNd:∀args w,(callFunc 240 args).run Go.Proofs.Tryz.prog w= .ok (.enter 240 args) w:=Go.Proofs.enters_of Go.Proofs.Tryz.func240 (by kernel_rfl) rfl;have eFb:∀args w,(callFunc 241 args).run Go.Proofs.Tryz.prog w= .ok (.enter 241 args) w:=Go.Proofs.enters_of Go.Proofs.Tryz.func241 (by kernel_rfl) rfl;have hu1:1≤u:=by omega
 have hnd20:Lib.nDigits u≤20:=by have:=Lib.numDigits_eq u hu1 hu64;split at this<;>omega
 have hal:Go.Proofs.Tryz.prog.arrayLen 259=24:=by simp [Program.arrayLen,Go.Proofs.Tryz.underlying259]
 have hsl:∀W,(Instr.sliceAt 259 (.pointer (some ⟨w.heap.size,0,none⟩)) none (some (.int .i64 (Lib.nDigits u:Int))) none).run Go.Proofs.Tryz.prog W= .ok (.slice (some ⟨w.heap.size,0,none⟩) (Lib.nDigits u) 24) W:=fun W=>by
  rw[run_sliceAt_array_h W 259 ⟨w.heap.size,0,none⟩ (by simp [Program.arrayLen,Program.elem,Go.Proofs.Tryz.underlying259]) .i64 (Lib.nDigits u:Int) (by omega) (by rw[hal];omega)]
  go_simp
 have hH0:=Lib.holds_zero0 w 259 (Lib.nDigits u) (by omega);have hfmt:=Go.Proofs.Tryz.internal_strconv_formatBase10 w.heap.size 0 24 u (Array.replicate (Lib.nDigits u) 0) (w.alloc (.cells Lib.zeros24 259)) hH0 (by rw[Array.size_replicate];exact Lib.lt_pow_nDigits u) hu64 (by rw[Array.size_replicate];omega);rw[Array.size_replicate]at hfmt;have HH0:=Lib.hid hH0;have iu:(100:Int)≤(u:Int):=by omega
 clear hH0 hal
 go_enter Go.Proofs.Tryz.func222,Go.Proofs.Tryz.ntmps222
 go_wp2_with (first
  |(go_at_fn 240;refine(Go.Proofs.Tryz.internal_strconv_numDigits u hu1 hu64 _ (Lib.tabIs_alloc htab _)).mono ?_;rintro e w' ⟨rfl,rfl⟩))
 go_at_fn 241
 refine hfmt.mono ?_
 rintro e w' ⟨rfl,k,v',dk,rfl,hF⟩
 have hcv:(convert 170 9 (.slice (some ⟨w.heap.size,0,none⟩) (Lib.nDigits u) 24)).run Go.Proofs.Tryz.prog ((putRow (fun(b:UInt8)=>Value.int .u8 (b.toNat:Int)) (w.alloc (.cells Lib.zeros24 259)) w.heap.size 0 dk).drewN k)= .ok (.string ⟨(Lib.decDigits u).toArray⟩) ((putRow (fun(b:UInt8)=>Value.int .u8 (b.toNat:Int)) (w.alloc (.cells Lib.zeros24 259)) w.heap.size 0 dk).drewN k):=by
  have h:=run_convert_bytes_back (P:=Go.Proofs.Tryz.prog) ((putRow (fun(b:UInt8)=>Value.int .u8 (b.toNat:Int)) (w.alloc (.cells Lib.zeros24 259)) w.heap.size 0 dk).drewN k) 170 9 5 ⟨w.heap.size,0,none⟩ 24 (Lib.decDigits u) Go.Proofs.Tryz.underlying170 Go.Proofs.Tryz.underlying5 Go.Proofs.Tryz.underlying9 (fun j hj=>by
   rw[Lib.row_is_numeral hF j hj,Lib.add_plain,World.cell?_drewN];exact cell?_putRow (fun(b:UInt8)=>Value.int .u8 (b.toNat:Int)) _ w.heap.size 0 _ dk HH0.out (by rw[hF.size,Array.size_replicate]) j (by rw[hF.size];rw[Lib.decDigits_length]at hj;exact hj))
  rw[Lib.decDigits_length]at h;exact h
 go_wp2
 go_ret
 obtain⟨os,eo⟩:=Lib.fin_at w (.cells Lib.zeros24 259) dk k 0;exact⟨rfl,k,os,eo⟩
set_option maxRecDepth 100000 in
open Go.Proofs Go.Shelf Go.RowKit Go.Sort Go.Lib in
theorem fu_pub (n:Nat) (h:n<18446744073709551616) (w:World)
  (htab:Lib.TabIs Go.Proofs.Tryz.prog w "internal/strconv.uint64pow10" .u64 Lib.pow10Tab):
  Calls Go.Proofs.Tryz.prog 205 #[.int .u64 n, .int .i64 10] w fun e w'=>e= .returned (.string ⟨(Lib.decDigits n).toArray⟩)∧∃k os,w'=grow (w.drewN k) os:=by
 have eFu:∀args w,(callFunc 222 args).run Go.Proofs.Tryz.prog w= .ok (.enter 222 args) w:=Go.Proofs.enters_of Go.Proofs.Tryz.func222 (by kernel_rfl) rfl;have hin:Calls Go.Proofs.Tryz.prog 222 #[.int .u64 n, .int .i64 10] w fun e w'=>e= .returned (.string ⟨(Lib.decDigits n).toArray⟩)∧∃k os,w'=grow (w.drewN k) os:=by
  by_cases h1:n<100
  ·refine(fu_small n h1 w).mono ?_
   rintro e w' ⟨rfl,rfl⟩
   exact⟨rfl,0, #[],by simp [World.drewN_zero]⟩
  ·exact fu_big n (by omega) h w htab
 go_enter Go.Proofs.Tryz.func205,Go.Proofs.Tryz.ntmps205
 go_wp2_with (go_at_fn 222;refine hin.mono ?_;rintro e w' ⟨rfl,k,os,rfl⟩)
 go_ret
 exact⟨rfl,k,os,rfl⟩
theorem belowGrowU (w:World) (k:Nat) (os:Array Obj):Below w.heap.size w (Go.Sort.grow (w.drewN k) os):=⟨rfl,rfl,rfl,by simp [Go.Sort.grow,World.drewN],fun b hb=>by simp [Go.Sort.grow,World.drewN,Array.getElem?_append_left hb]⟩
theorem c0l (hP:InP gl):a0m Go.Proofs.Tryz.prog gl 205 b8u:=by
 refine b3v (enters_of Go.Proofs.Tryz.func205 (by kernel_rfl) (by kernel_rfl)) (fun _ _ _ _ _ _=>trivial) (fun w M0 W0 us x γ hl hW ha r hr=> ?_);obtain⟨n,b,q⟩:=x;obtain⟨u1,_,rfl,⟨c1,h1,h1'⟩,u2,_,rfl,⟨c2,h2,h2'⟩,rfl⟩:=ha;cases h1';cases h2';subst h1;subst h2;unfold S.a4i at hr;split at hr
 case isFalse=>cases hr
 rename_i hc;obtain⟨hb,h0,h3⟩:=hc;cases hr;dsimp only at hb h0 h3;subst hb;obtain⟨m,rfl⟩:∃m:Nat,n=(m:Int):=⟨n.toNat,(Int.toNat_of_nonneg h0).symm⟩
 rw[Int.toNat_natCast];have htab:Lib.TabIs Go.Proofs.Tryz.prog w "internal/strconv.uint64pow10" .u64 Lib.pow10Tab:=laid_var hl hP (by kernel_rfl);refine(fu_pub m (by omega) w htab).mono ?_
 rintro e w' ⟨rfl,k,os,rfl⟩
 exact⟨[_],rfl,belowGrowU _ _ _,fun M'=>⟨[_],rfl,fun _=>rfl,rfl⟩⟩
def d1b:Ct:=⟨[PK.bo lT,PK.ro Kd.str],false,[(false,[RC.ro Kd.str])],S.b2a,[]⟩
theorem v_strings_Join:a0m Go.Proofs.Tryz.prog gl 208 d1b:=by
 refine b3v (enters_of Go.Proofs.Tryz.func208 (by kernel_rfl) (by kernel_rfl)) (fun _ _ _ _ _ _=>trivial) (fun w M0 W0 us x γ hl hW ha r hr=> ?_);obtain⟨xs,sep,q⟩:=x;obtain⟨u1,_,rfl,⟨c1,h1,h1'⟩,u2,_,rfl,⟨c2,h2,h2'⟩,rfl⟩:=ha;cases h2';subst h2;obtain⟨A,c,rfl,hlc,hel⟩:=h1';subst h1;unfold S.b2a at hr;split at hr
 case isFalse=>cases hr
 rename_i hc;obtain⟨hn,hj⟩:=hc;cases hr;dsimp only at hn hj
 by_cases h0:xs.length=0
 ·have:xs=[]:=List.eq_nil_of_length_eq_zero h0;subst this;refine(Go.Proofs.Tryz.strings_Join_none A c sep w).mono ?_
  rintro e w' ⟨rfl,rfl⟩
  exact⟨[_],rfl,Below.refl _ _,fun M'=>⟨[_],rfl,fun _=>rfl,rfl⟩⟩
 ·obtain⟨b,o,rfl,hcell⟩:=hel h0;have hcells:∀(j:Nat) x,xs[j]? =some x→w.cell? ⟨b,o+j,none⟩=some (.string x):=by
   intro j x hx;obtain⟨es,e1,e2⟩:=hcell j x hx;cases e1;have:=(e2 0 _ rfl).1;simpa [Kd.sz]using this
  have hbk:b<w.heap.size:=by
   have:=hcells 0 xs[0] (List.getElem?_eq_getElem (by omega));exact World.block_lt_of_cell? _ _ this
  refine(Go.Proofs.Tryz.strings_Join b o c xs sep w hcells hbk hn hlc hj).mono ?_
  rintro e w' ⟨rfl,hbl⟩
  exact⟨[_],rfl,hbl,fun M'=>⟨[_],rfl,fun _=>rfl,rfl⟩⟩
def c4t:Ct:=⟨[PK.ro Kd.str,pI],false,[(false,[RC.ro Kd.str])],S.a7m,[]⟩
theorem c7t:a0m Go.Proofs.Tryz.prog gl 206 c4t:=by
 refine b3v (enters_of Go.Proofs.Tryz.func206 (by kernel_rfl) (by kernel_rfl)) (fun _ _ _ _ _ _=>trivial) (fun w M0 W0 us x γ hl hW ha r hr=> ?_);obtain⟨s,c,q⟩:=x;obtain⟨u1,_,rfl,⟨c1,h1,h1'⟩,u2,_,rfl,⟨c2,h2,h2'⟩,rfl⟩:=ha;cases h1';cases h2';subst h1;subst h2;unfold S.a7m at hr;split at hr
 case isFalse=>cases hr
 rename_i hc;obtain⟨g0,g1,g2⟩:=hc;dsimp only at g0 g1 g2 hr;cases hr;obtain⟨n,rfl⟩:∃n:Nat,c=(n:Int):=⟨c.toNat,(Int.toNat_of_nonneg g0).symm⟩
 have hm:s.size*n≤1000000*1000000:=Nat.mul_le_mul g2 (by omega);refine(Go.Proofs.Tryz.strings_Repeat s n w (by omega) (by omega)).mono ?_
 rintro e w' ⟨rfl,hb⟩
 exact⟨[_],rfl,hb,fun M'=>⟨[_],rfl,fun _=>rfl,rfl⟩⟩
def b0a:Ct:=⟨[PK.mu Kd.str],true,[],S.a0x,[]⟩
theorem b0o:a0m Go.Proofs.Tryz.prog gl 207 b0a:=VV mixed a2p [] [(1,[(2,dI),(3,dI),(0,Sp.own (0) false Kd.str)])] P.a3j (a0i _ _ _ _ _) Go.Proofs.Tryz.func207 S.b0e
def ct_i_nat_trim:Ct:=⟨[PK.ro lU],false,[(false,[RC.ro lU])],S.a3t,[]⟩
theorem a8m:a0m Go.Proofs.Tryz.prog gl 196 ct_i_nat_trim:=VV mixed a2p [] [(1,[(0,Sp.dat false lU)])] P.i_nat_trim (a0i _ _ _ _ _) Go.Proofs.Tryz.func196 S.i_nat_trim_ok
def c4u:Ct:=⟨[PK.bo lU,PK.ro aU],true,[(false,[RC.ro lU]),(false,[RC.ro aU])],S.a2y,[]⟩
theorem b7y:a0m Go.Proofs.Tryz.prog gl 204 c4u:=VV mixed a2p [] [(3,[(8,dI),(7,Sp.dat false (Kd.int IntKind.u64)),(0,Sp.dat true lU),(6,Sp.own (88) true aU),(1,Sp.dat false aU)])] P.b5q (a0c a8m (a0i _ _ _ _ _)) Go.Proofs.Tryz.func204 S.c5y
def ct_i_nat_text:Ct:=⟨[PK.bo lU],false,[(false,[RC.ro Kd.str])],S.b0y,[]⟩
theorem v_i_nat_text (hP:InP gl):a0m Go.Proofs.Tryz.prog gl 188 ct_i_nat_text:=VV mixed a2p [] [(4,[(0,Sp.dat true lU),(3,Sp.own (80) true Kd.str)])] P.c5z (a0c (c0l hP) (a0c v_strings_Join (a0c c7t (a0c b0o (a0c b7y (a0i _ _ _ _ _)))))) Go.Proofs.Tryz.func188 S.i_nat_text_ok
def ct_i_rat_text:Ct:=⟨[PK.bo KR],true,[(false,[RC.ro Kd.str]),(false,[RC.ro Kd.bool])],S.b0z,[]⟩
theorem v_i_rat_text (hP:InP gl):a0m Go.Proofs.Tryz.prog gl 140 ct_i_rat_text:=VV mixed a2p [] [] P.c6a (a0c (v_i_nat_text hP) (a0i _ _ _ _ _)) Go.Proofs.Tryz.func140 S.i_rat_text_ok
def ct_i_toldList:Ct:=⟨[PK.bo lR],true,[(false,[RC.own Kd.str]),(false,[RC.ro Kd.bool])],S.b3s,[]⟩
theorem v_i_toldList (hP:InP gl):a0m Go.Proofs.Tryz.prog gl 80 ct_i_toldList:=VV mixed a2p [] [(3,[(12,dI),(11,dI),(10,Sp.dat true lR),(4,Sp.own (72) true Kd.str)])] P.c6b (a0c (v_i_rat_text hP) (a0i _ _ _ _ _)) Go.Proofs.Tryz.func80 S.i_toldList_ok
def ct_i_magnitude:Ct:=⟨[pI],false,[(false,[RC.ro (Kd.int IntKind.u64)])],S.b4l,[]⟩
theorem v_i_magnitude:a0m Go.Proofs.Tryz.prog gl 175 ct_i_magnitude:=VV mixed a2p [] [] P.c1u (a0i _ _ _ _ _) Go.Proofs.Tryz.func175 S.i_magnitude_ok
def ct_i_natOf:Ct:=⟨[PK.ro (Kd.int IntKind.u64)],false,[(false,[RC.ro lU])],S.a3d,[]⟩
theorem b8v:a0m Go.Proofs.Tryz.prog gl 174 ct_i_natOf:=VV mixed a2p [] [] P.i_natOf (a0c a8m (a0i _ _ _ _ _)) Go.Proofs.Tryz.func174 S.i_natOf_ok
def ct_i_whole:Ct:=⟨[pI],false,[(true,[RC.ro KR])],S.a5g,[]⟩
theorem b6b:a0m Go.Proofs.Tryz.prog gl 120 ct_i_whole:=VV mixed a2p [] [] P.i_whole (a0c v_i_magnitude (a0c b8v (a0i _ _ _ _ _))) Go.Proofs.Tryz.func120 S.i_whole_ok
def ct_i_nat_cmp:Ct:=⟨[PK.bo lU,PK.bo lU],false,[(false,[RC.ro aI])],S.a1h,[]⟩
theorem b7f:a0m Go.Proofs.Tryz.prog gl 171 ct_i_nat_cmp:=VV mixed a2p [] [(6,[(5,dI),(0,Sp.dat true lU),(1,Sp.dat true lU)])] P.i_nat_cmp (a0i _ _ _ _ _) Go.Proofs.Tryz.func171 S.i_nat_cmp_ok
def ct_i_nat_mul:Ct:=⟨[PK.bo lU,PK.bo lU],false,[(false,[RC.ro lU])],S.a2t,[]⟩
theorem b7g:a0m Go.Proofs.Tryz.prog gl 170 ct_i_nat_mul:=VV mixed a2p [] [(7,[(26,dI),(25,dI),(24,Sp.dat true lU),(8,Sp.dat false (Kd.int IntKind.u64)),(7,Sp.dat false aU),(5,Sp.own (128) true aU),(6,dI),(1,Sp.dat true lU),(19,dI),(18,dI),(17,Sp.dat true lU)]),(3,[(19,dI),(18,dI),(17,Sp.dat true lU),(1,Sp.dat true lU),(5,Sp.own (128) true aU)])] P.i_nat_mul (a0c a8m (a0i _ _ _ _ _)) Go.Proofs.Tryz.func170 S.i_nat_mul_ok
def ct_i_rat_sign:Ct:=⟨[PK.bo KR],false,[(false,[RC.ro aI])],S.a0t,[]⟩
theorem a6h:a0m Go.Proofs.Tryz.prog gl 79 ct_i_rat_sign:=VV mixed a2p [] [] P.c6c (a0i _ _ _ _ _) Go.Proofs.Tryz.func79 S.i_rat_sign_ok
def ct_i_rat_cmp:Ct:=⟨[PK.bo KR,PK.bo KR],false,[(false,[RC.ro aI])],S.c3t,[]⟩
theorem v_i_rat_cmp:a0m Go.Proofs.Tryz.prog gl 153 ct_i_rat_cmp:=VV mixed a2p [] [] P.c3s (a0c b7f (a0c b7g (a0c a6h (a0i _ _ _ _ _)))) Go.Proofs.Tryz.func153 S.i_rat_cmp_ok
def ct_i_rat_isOne:Ct:=⟨[PK.bo KR],false,rB,S.a8c,[]⟩
theorem v_i_rat_isOne:a0m Go.Proofs.Tryz.prog gl 182 ct_i_rat_isOne:=VV mixed a2p [] [] P.c1v (a0c b6b (a0c v_i_rat_cmp (a0i _ _ _ _ _))) Go.Proofs.Tryz.func182 S.i_rat_isOne_ok
def ct_strings_Cut:Ct:=⟨[PK.ro Kd.str,PK.ro Kd.str],true,[(false,[RC.ro Kd.str]),(false,[RC.ro Kd.str]),(false,[RC.ro Kd.bool])],S.b4m,[]⟩
theorem v_strings_Cut (hM:InM gl):a0m Go.Proofs.Tryz.prog gl 184 ct_strings_Cut:=by
 refine b3v (enters_of Go.Proofs.Tryz.func184 (by kernel_rfl) (by kernel_rfl)) (fun _ _ _ _ _ _=>trivial) (fun w M0 W0 us x γ hl hW ha r hr=> ?_);obtain⟨s,b,q⟩:=x;obtain⟨u1,_,rfl,⟨c1,h1,h1'⟩,u2,_,rfl,⟨c2,h2,h2'⟩,rfl⟩:=ha;cases h1';cases h2';subst h1;subst h2;unfold S.b4m at hr;split at hr
 case isFalse=>cases hr
 rename_i hc;cases hr;obtain⟨m,hm⟩:=hM;refine(Go.Proofs.Tryz.strings_Cut s b m w hc (laid_cell hl hm)).mono ?_
 rintro e w' ⟨rfl,n,rfl⟩
 exact⟨[_,_,_],rfl,⟨rfl,rfl,rfl,Nat.le_refl _,fun _ _=>rfl⟩,fun M'=>⟨[_],[_,_],rfl,fun _=>rfl,rfl,[_],[_],rfl,fun _=>rfl,rfl,[_],rfl,fun _=>rfl,rfl⟩⟩
def c0m:Ct:=⟨[PK.ro Kd.str,PK.ro Kd.str],true,[(false,[RC.ro Kd.str]),(false,[RC.ro Kd.bool])],S.a6x,[]⟩
theorem c1i:a0m Go.Proofs.Tryz.prog gl 185 c0m:=by
 refine b3v (enters_of Go.Proofs.Tryz.func185 (by kernel_rfl) (by kernel_rfl)) (fun _ _ _ _ _ _=>trivial) (fun w M0 W0 us x γ hl hW ha r hr=> ?_);obtain⟨s,b,q⟩:=x;obtain⟨u1,_,rfl,⟨c1,h1,h1'⟩,u2,_,rfl,⟨c2,h2,h2'⟩,rfl⟩:=ha;cases h1';cases h2';subst h1;subst h2;cases hr;refine(Go.Proofs.Tryz.strings_CutPrefix s b w).mono ?_
 rintro e w' ⟨rfl,rfl⟩
 exact⟨[_,_],rfl,Below.refl _ _,fun M'=>⟨[_],[_],rfl,fun _=>rfl,rfl,[_],rfl,fun _=>rfl,rfl⟩⟩
def ct_i_nat_small:Ct:=⟨[PK.bo lU],true,[(false,[RC.ro (Kd.int IntKind.u64)]),(false,[RC.ro Kd.bool])],S.a5h,[]⟩
theorem v_i_nat_small:a0m Go.Proofs.Tryz.prog gl 203 ct_i_nat_small:=VV mixed a2p [] [(3,[(5,dI),(0,Sp.dat true lU),(4,Sp.dat false (Kd.int IntKind.u64))])] P.b7t (a0i _ _ _ _ _) Go.Proofs.Tryz.func203 S.i_nat_small_ok
def b4c:Ct:=⟨[PK.ro aU],false,[(false,[RC.ro aI])],S.a3g,[]⟩
theorem b4n:a0m Go.Proofs.Tryz.prog gl 214 b4c:=by
 refine b3v (enters_of Go.Proofs.Tryz.func214 (by kernel_rfl) (by kernel_rfl)) (fun _ _ _ _ _ _=>trivial) (fun w M0 W0 us x γ hl hW ha r hr=> ?_);obtain⟨n,q⟩:=x;obtain⟨u1,_,rfl,⟨c1,h1,h1'⟩,rfl⟩:=ha;cases h1';subst h1;unfold S.a3g at hr;split at hr
 case isFalse=>cases hr
 rename_i hc;cases hr;refine(Go.Proofs.Tryz.bits_LeadingZeros32 n w hc.1 hc.2).mono ?_
 rintro e w' ⟨rfl,rfl⟩
 exact⟨[_],rfl,Below.refl _ _,fun M'=>⟨[_],rfl,fun _=>rfl,rfl⟩⟩
def c7u:Ct:=⟨[PK.bo lU,pI],false,[(false,[RC.own aU])],S.a3q,[]⟩
theorem d1c:a0m Go.Proofs.Tryz.prog gl 215 c7u:=VV mixed a2p [] [(3,[(15,dI),(14,dI),(13,Sp.dat true lU),(1,dI),(5,Sp.own (96) true aU)])] P.b7u (a0i _ _ _ _ _) Go.Proofs.Tryz.func215 S.c8d
def ct_i_takeAway:Ct:=⟨[PK.mu aU,PK.bo lU,PK.ro (Kd.int IntKind.u64)],false,rB,S.a8s,[]⟩
theorem v_i_takeAway:a0m Go.Proofs.Tryz.prog gl 216 ct_i_takeAway:=VV mixed a2p [] [(18,[(59,dI),(58,dI),(7,Sp.dat false (Kd.int IntKind.u64)),(0,Sp.own (0) false aU),(1,Sp.dat true lU)]),(3,[(14,dI),(13,dI),(1,Sp.dat true lU),(7,Sp.dat false (Kd.int IntKind.u64)),(2,Sp.dat false (Kd.int IntKind.u64)),(0,Sp.own (0) false aU),(8,dI)])] P.c6d (a0i _ _ _ _ _) Go.Proofs.Tryz.func216 S.i_takeAway_ok
def ct_i_nat_div:Ct:=⟨[PK.ro lU,PK.ro lU],true,[(false,[RC.ro lU]),(false,[RC.ro lU])],S.a4q,[]⟩
theorem trimN_snoc (xs:List Int) (x:Int):c5s (xs++[x])=if x=0 then c5s xs else xs.length+1:=by
 unfold c5s;rw[List.reverse_append]
 by_cases h:x=0
 ·simp [h]
 ·simp [h]
theorem trimN_le (xs:List Int):c5s xs≤xs.length:=by
 unfold c5s;have:=(List.dropWhile_sublist (fun x:Int=>x==0) (l:=xs.reverse)).length_le;simpa using this
def lenOfV:Value→Nat
 | .slice _ m _=>m
 |_=>0
set_option maxHeartbeats 800000 in
set_option maxRecDepth 100000 in
theorem trim_calls (b o real:Nat) (xs:List Int) (w:World) (hle:xs.length≤real) (hbig:xs.length≤1000000000000) (hc:∀(i:Nat) (x:Int),xs[i]? =some x→w.cell? ⟨b,o+i,none⟩=some (.int .u32 x)):
  Calls Go.Proofs.Tryz.prog 196 #[.slice (some ⟨b,o,none⟩) xs.length real] w fun e w'=>e= .returned (.slice (some ⟨b,o,none⟩) (c5s xs) real)∧w'=w:=by
 go_enter Go.Proofs.Tryz.func196,Go.Proofs.Tryz.ntmps196
 go_wp2
 go_loopw [0] (fun v wr=>∃m:Nat,m≤xs.length∧v= .slice (some ⟨b,o,none⟩) m real∧wr=w∧c5s (xs.take m)=c5s xs) (fun v _=>lenOfV v)
 case atStart=>exact⟨xs.length,Nat.le_refl _,rfl,rfl,by rw[List.take_length]⟩
 case round=>
  obtain⟨m,hm,rfl,rfl,ht⟩:=hrel
  by_cases h0:0<m
  ·obtain⟨k,rfl⟩:∃k,m=k+1:=⟨m - 1,by omega⟩
   have hx:xs[k]? =some xs[k]:=List.getElem?_eq_getElem (by omega);have hcx:=hc k _ hx;have hw:wrap64 (((k+1:Nat):Int) - 1)=(k:Int):=by
    have e:((k+1:Nat):Int) - 1=(k:Int):=by omega
    rw[e];exact IntWalk.wrap64_in _ (by omega)
   have ht':c5s (xs.take (k+1))=if xs[k]=0 then c5s (xs.take k)else k+1:=by
    rw[←List.take_append_getElem (show k<xs.length by omega),trimN_snoc];have:(xs.take k).length=k:=by simp;omega
    rw[this]
   go_wp2
   ·have hz:(xs[k]==0)=true:=by assumption
    have hz':xs[k]=0:=by simpa using hz
    rw[if_pos hz']at ht';exact⟨⟨k,by omega,rfl,trivial,by rw[←ht',ht]⟩,Nat.lt_succ_self k⟩
   ·have hz:(xs[k]==0)=false:=by assumption
    have hz':¬xs[k]=0:=by simpa using hz
    rw[if_neg hz']at ht';rw[←ht,ht']
    go_ret
    exact⟨rfl,rfl⟩
  ·have h1:m=0:=by omega
   subst h1
   go_wp2
   have h2:c5s xs=0:=by rw[←ht];rfl
   rw[h2]
   go_ret
   exact⟨rfl,rfl⟩
set_option maxHeartbeats 800000 in
set_option maxRecDepth 100000 in
theorem trim_calls0 (A:Option Addr) (real:Nat) (w:World):
  Calls Go.Proofs.Tryz.prog 196 #[.slice A 0 real] w fun e w'=>e= .returned (.slice A 0 real)∧w'=w:=by
 go_enter Go.Proofs.Tryz.func196,Go.Proofs.Tryz.ntmps196
 go_wp2
 refine wp_loop_rounds 1 ?_;rw[rounds_succ]
 go_wp2
 go_ret
 exact⟨rfl,rfl⟩
theorem shr_trim:ShrOk Go.Proofs.Tryz.prog 196 IntKind.u32 c5s:=by
 refine⟨enters_of Go.Proofs.Tryz.func196 (by kernel_rfl) (by kernel_rfl),fun w u xs A real hbig hsl hno hc=> ?_⟩;obtain⟨A',rfl,hle,hA⟩:=hsl;rcases Nat.eq_zero_or_pos real with h0|h0
 ·have h1:xs=[]:=List.eq_nil_of_length_eq_zero (by omega);subst h1;refine(trim_calls0 A' real w).mono ?_
  rintro e w' ⟨rfl,rfl⟩
  exact⟨rfl,Nat.le_refl _,_,rfl,rfl,A',rfl,Nat.zero_le _,fun h=>by omega⟩
 ·obtain⟨b,o,rfl,rfl⟩:=hA h0;refine(trim_calls b o real xs w hle hbig (hc b o rfl)).mono ?_
  rintro e w' ⟨rfl,rfl⟩
  have:=trimN_le xs;exact⟨rfl,this,_,rfl,rfl,_,rfl,by omega,fun _=>⟨b,o,rfl,rfl⟩⟩
theorem d1d:a0m Go.Proofs.Tryz.prog gl 195 ct_i_nat_div:=VV mixed a2p [] [(26,[(148,dI),(147,dI),(9,Sp.own (400) true aU),(8,dI),(13,Sp.own (592) true aU)]),(17,[(17,Sp.dat false (Kd.int IntKind.u64)),(12,Sp.dat false (Kd.int IntKind.u64)),(18,Sp.dat false (Kd.int IntKind.u64)),(9,Sp.own (400) true aU),(15,dI),(11,Sp.dat false (Kd.int IntKind.u64)),(14,dI),(10,Sp.dat false lU),(13,Sp.own (592) true aU),(8,dI)]),(12,[(14,dI),(10,Sp.dat false lU),(9,Sp.own (400) true aU),(11,Sp.dat false (Kd.int IntKind.u64)),(12,Sp.dat false (Kd.int IntKind.u64)),(13,Sp.own (592) true aU),(8,dI)])] P.c9p (a0c b4n (a0c a8m (a0c b7f (a0c b7y (a0c d1c (a0c v_i_takeAway (ctsShr (s:=(IntKind.u32,c5s)) shr_trim))))))) Go.Proofs.Tryz.func195 S.i_nat_div_ok
def ct_i_nat_gcd:Ct:=⟨[PK.ro lU,PK.ro lU],false,[(false,[RC.ro lU])],S.a5k,[]⟩
theorem d1e:a0m Go.Proofs.Tryz.prog gl 187 ct_i_nat_gcd:=VV mixed a2p [] [(5,[(7,Sp.dat false (Kd.int IntKind.u64)),(5,Sp.dat false (Kd.int IntKind.u64))]),(1,[(1,Sp.dat false lU),(0,Sp.dat false lU)])] P.c9q (a0c b8v (a0c v_i_nat_small (a0c d1d (a0i _ _ _ _ _)))) Go.Proofs.Tryz.func187 S.i_nat_gcd_ok
def c0n:Ct:=⟨[PK.ro Kd.str,pI,pI],true,[(false,[RC.ro (Kd.int IntKind.u64)]),(false,[RC.ro Kd.er])],S.a3s,[]⟩
theorem c1j (hR:InR gl) (hS:InS gl):a0m Go.Proofs.Tryz.prog gl 202 c0n:=by
 refine b3v (enters_of Go.Proofs.Tryz.func202 (by kernel_rfl) (by kernel_rfl)) (fun _ _ _ _ _ _=>trivial) (fun w M0 W0 us x γ hl hW ha r hr=> ?_);obtain⟨s,b,z,q⟩:=x;obtain⟨u1,_,rfl,⟨c1,h1,h1'⟩,u2,_,rfl,⟨c2,h2,h2'⟩,u3,_,rfl,⟨c3,h3,h3'⟩,rfl⟩:=ha;cases h1';cases h2';cases h3';subst h1;subst h2;subst h3;unfold S.a3s at hr;split at hr
 case isFalse=>cases hr
 rename_i hc;obtain⟨hb,hz,hs⟩:=hc;dsimp only at hb hz hs hr;subst hb;subst hz;obtain⟨t1,p1,hS⟩:=hS;obtain⟨t2,p2,hR⟩:=hR;have v1:w.var? Go.Proofs.Tryz.prog "strconv.ErrSyntax" =some #[.iface t1 p1]:=laid_var hl hS (by kernel_rfl);have v2:w.var? Go.Proofs.Tryz.prog "strconv.ErrRange" =some #[.iface t2 p2]:=laid_var hl hR (by kernel_rfl);split at hr
 ·rename_i v hv;cases hr;refine(Go.Proofs.Tryz.strconv_ParseUint_10_at64_ok s (by omega) v hv w).mono ?_
  rintro e w' ⟨rfl,hw⟩
  refine⟨[_,_],rfl,?_,fun M'=>⟨[_],[_],rfl,fun _=>rfl,rfl,[_],rfl,fun _=>rfl,_,rfl,rfl,rfl⟩⟩;rcases hw with rfl|⟨t,rfl⟩
  ·exact Below.refl _ _
  ·exact⟨rfl,rfl,rfl,by rw[Lib.bytesWorld_size];omega,fun k hk=>Lib.bytesWorld_at_old _ _ _ k (by omega)⟩
 ·rename_i hv;cases hr;refine(Go.Proofs.Tryz.strconv_ParseUint_10_at64_syntax_var s hs hv t1 p1 w v1).mono ?_
  rintro e w' ⟨N,rfl,_,_,hbl⟩
  exact⟨[_,_],rfl,hbl,fun M'=>⟨[_],[_],rfl,fun _=>rfl,rfl,[_],rfl,fun _=>rfl,_,rfl,rfl,_,_,rfl⟩⟩
 ·rename_i hv;cases hr;refine(Go.Proofs.Tryz.strconv_ParseUint_10_at64_range_var s hs hv t2 p2 w v2).mono ?_
  rintro e w' ⟨N,rfl,_,_,hbl⟩
  exact⟨[_,_],rfl,hbl,fun M'=>⟨[_],[_],rfl,fun _=>rfl,rfl,[_],rfl,fun _=>rfl,_,rfl,rfl,_,_,rfl⟩⟩
def ct_i_nat_add:Ct:=⟨[PK.bo lU,PK.bo lU],false,[(false,[RC.ro lU])],S.a9o,[]⟩
theorem d1f:a0m Go.Proofs.Tryz.prog gl 172 ct_i_nat_add:=VV mixed a2p [] [(5,[(21,dI),(20,dI),(6,Sp.dat false (Kd.int IntKind.u64)),(0,Sp.dat true lU),(1,Sp.dat true lU),(5,Sp.own (144) true aU)])] P.c2g (a0c a8m (a0i _ _ _ _ _)) Go.Proofs.Tryz.func172 S.i_nat_add_ok
def ct_i_readNat:Ct:=⟨[PK.ro Kd.str],true,[(false,[RC.ro lU]),(false,[RC.ro Kd.bool])],S.a9p,[]⟩
theorem v_i_readNat (hR:InR gl) (hS:InS gl):a0m Go.Proofs.Tryz.prog gl 186 ct_i_readNat:=VV mixed a2p [] [(17,[(59,dI),(58,dI),(9,Sp.dat false (Kd.int IntKind.u64)),(4,Sp.dat false lU),(7,Sp.dat false (Kd.int IntKind.u64)),(0,Sp.dat false Kd.str),(6,dI)]),(10,[(0,Sp.dat false Kd.str),(4,Sp.dat false lU)]),(5,[(30,dI),(29,dI),(0,Sp.dat false Kd.str),(4,Sp.dat false lU)])] P.c9r (a0c (c1j hR hS) (a0c b8v (a0c d1f (a0c b7g (a0i _ _ _ _ _))))) Go.Proofs.Tryz.func186 S.i_readNat_ok
def ct_i_readRat:Ct:=⟨[PK.ro Kd.str],true,[(true,[RC.ro KR]),(false,[RC.ro Kd.bool])],S.b5w,[]⟩
theorem v_i_readRat (hM:InM gl) (hR:InR gl) (hS:InS gl):a0m Go.Proofs.Tryz.prog gl 138 ct_i_readRat:=VV mixed a2p [] [] P.c9s (a0c (v_strings_Cut hM) (a0c c1i (a0c b8v (a0c b7f (a0c d1e (a0c (v_i_readNat hR hS) (a0i _ _ _ _ _))))))) Go.Proofs.Tryz.func138 S.i_readRat_ok
def ct_i_rats:Ct:=⟨[PK.bo lT],true,[(false,[RC.ro lR]),(false,[RC.ro Kd.bool])],S.i_rats,[]⟩
theorem v_i_rats (hM:InM gl) (hR:InR gl) (hS:InS gl):a0m Go.Proofs.Tryz.prog gl 75 ct_i_rats:=VV mixed a2p [] [(5,[(15,dI),(14,dI),(13,Sp.dat true lT),(4,Sp.own (96) true KR)])] P.i_rats (a0c (v_i_readRat hM hR hS) (a0i _ _ _ _ _)) Go.Proofs.Tryz.func75 S.i_rats_ok
def ct_i_nat_sub:Ct:=⟨[PK.bo lU,PK.bo lU],false,[(false,[RC.ro lU])],S.a9q,[]⟩
theorem v_i_nat_sub:a0m Go.Proofs.Tryz.prog gl 173 ct_i_nat_sub:=VV mixed a2p [] [(3,[(14,dI),(13,dI),(0,Sp.dat true lU),(6,dI),(1,Sp.dat true lU),(5,Sp.own (88) true aU)])] P.c9t (a0c a8m (a0i _ _ _ _ _)) Go.Proofs.Tryz.func173 S.i_nat_sub_ok
def ct_i_lowest:Ct:=⟨[PK.ro Kd.bool,PK.ro lU,PK.ro lU],false,[(true,[RC.ro KR])],S.a5e,[]⟩
theorem v_i_lowest:a0m Go.Proofs.Tryz.prog gl 169 ct_i_lowest:=VV mixed a2p [] [] P.i_lowest (a0c b8v (a0c d1d (a0c d1e (a0i _ _ _ _ _)))) Go.Proofs.Tryz.func169 S.i_lowest_ok
def ct_i_rat_add:Ct:=⟨[pR,pR],false,[(true,[RC.ro KR])],S.a3l,[]⟩
theorem c1k:a0m Go.Proofs.Tryz.prog gl 119 ct_i_rat_add:=VV mixed a2p [] [] P.c9u (a0c b7f (a0c v_i_nat_sub (a0c d1f (a0c b7g (a0c v_i_lowest (a0c a6h (a0i _ _ _ _ _))))))) Go.Proofs.Tryz.func119 S.i_rat_add_ok
def ct_i_sum:Ct:=⟨[PK.ro lR],false,[(true,[RC.ro KR])],S.i_sum,[]⟩
theorem v_i_sum:a0m Go.Proofs.Tryz.prog gl 78 ct_i_sum:=VV mixed a2p [] [(3,[(9,dI),(8,dI),(7,Sp.dat false lR),(3,Sp.var (24) KR),(2,Sp.var (16) KR)])] P.i_sum (a0c b6b (a0c c1k (a0i _ _ _ _ _))) Go.Proofs.Tryz.func78 S.i_sum_ok
def ct_i_isMinus:Ct:=⟨[PK.bo KR],false,rB,S.b3w,[]⟩
theorem c1l:a0m Go.Proofs.Tryz.prog gl 77 ct_i_isMinus:=VV mixed a2p [] [] P.c9v (a0c a6h (a0i _ _ _ _ _)) Go.Proofs.Tryz.func77 S.i_isMinus_ok
def b0b:Ct:=⟨[PK.bo lR,PK.fn (77)],false,[(false,[RC.ro aI])],S.a1n,[]⟩
theorem b0p:a0m Go.Proofs.Tryz.prog gl 139 b0b:=VV mixed a2p [] [(2,[(8,dI),(7,dI),(1,Sp.fn (77)),(0,Sp.dat true lR)])] P.a3h (a0c c1l (a0i _ _ _ _ _)) Go.Proofs.Tryz.func139 S.a9z
def a7z:Ct:=⟨[PK.bo lR,PK.fn (77)],false,rB,S.a0s,[]⟩
theorem a8t:a0m Go.Proofs.Tryz.prog gl 76 a7z:=VV mixed a2p [] [] P.a2q (a0c c1l (a0c b0p (a0i _ _ _ _ _))) Go.Proofs.Tryz.func76 S.a7y
def ct_i_notPlus:Ct:=⟨[PK.bo KR],false,rB,S.b3x,[]⟩
theorem d1g:a0m Go.Proofs.Tryz.prog gl 158 ct_i_notPlus:=VV mixed a2p [] [] P.c9w (a0c a6h (a0i _ _ _ _ _)) Go.Proofs.Tryz.func158 S.i_notPlus_ok
def a9s:Ct:=⟨[PK.bo lR,PK.fn (158)],false,[(false,[RC.ro aI])],S.a1f,[]⟩
theorem b0c:a0m Go.Proofs.Tryz.prog gl 139 a9s:=VV mixed a2p [] [(2,[(8,dI),(7,dI),(1,Sp.fn (158)),(0,Sp.dat true lR)])] P.a2z (a0c d1g (a0i _ _ _ _ _)) Go.Proofs.Tryz.func139 S.a9r
def a7g:Ct:=⟨[PK.bo lR,PK.fn (158)],false,rB,S.a2n,[]⟩
theorem a8a:a0m Go.Proofs.Tryz.prog gl 76 a7g:=VV mixed a2p [] [] P.a2m (a0c d1g (a0c b0c (a0i _ _ _ _ _))) Go.Proofs.Tryz.func76 S.a7e
def ct_i_weightsOf:Ct:=⟨[PK.bo lT],true,[(false,[RC.ro lR]),(false,[RC.ro Kd.bool])],S.b0m,[]⟩
theorem v_i_weightsOf (hM:InM gl) (hR:InR gl) (hS:InS gl):a0m Go.Proofs.Tryz.prog gl 136 ct_i_weightsOf:=VV mixed a2p [] [] P.c1e (a0c v_i_rat_isOne (a0c (v_i_rats hM hR hS) (a0c v_i_sum (a0c c1l (a0c a8t (a0c a8a (a0i _ _ _ _ _))))))) Go.Proofs.Tryz.func136 S.i_weightsOf_ok
def ct_i_chainOf:Ct:=⟨[PK.bo (Kd.st mT)],true,[(false,[RC.ro mR]),(false,[RC.ro Kd.bool])],S.b5x,[]⟩
theorem v_i_chainOf (hM:InM gl) (hR:InR gl) (hS:InS gl):a0m Go.Proofs.Tryz.prog gl 64 ct_i_chainOf:=VV mixed a2p [] [(5,[(23,dI),(22,dI),(21,Sp.dat true mT),(1,Sp.varb (8) mT),(4,Sp.own (152) true lR)])] P.c9x (a0c (v_i_weightsOf hM hR hS) (a0i _ _ _ _ _)) Go.Proofs.Tryz.func64 S.i_chainOf_ok
def c2r:Ct:=⟨[PK.ro (Kd.int IntKind.u64),PK.ro (Kd.int IntKind.u64)],true,[(false,[RC.ro (Kd.int IntKind.u64)]),(false,[RC.ro (Kd.int IntKind.u64)])],S.b3z,[]⟩
theorem c4v:a0m Go.Proofs.Tryz.prog gl 190 c2r:=VV mixed a2p [] [] P.b3y (a0i _ _ _ _ _) Go.Proofs.Tryz.func190 S.c2j
def c7v:Ct:=⟨[PK.ro (Kd.int IntKind.u64),PK.ro (Kd.int IntKind.u64)],true,[(false,[RC.ro (Kd.int IntKind.u64)]),(false,[RC.ro (Kd.int IntKind.u64)])],S.a2v,[]⟩
theorem b8w:a0m Go.Proofs.Tryz.prog gl 146 c7v:=VV mixed a2p [] [] P.b7a (a0c c4v (a0i _ _ _ _ _)) Go.Proofs.Tryz.func146 S.c7h
def b2j:Ct:=⟨[PK.ro lR,pI],false,[(false,[RC.own KR])],S.a1i,[]⟩
theorem b2y:a0m Go.Proofs.Tryz.prog gl 125 b2j:=VV mixed a2p [] [(8,[(8,dI),(7,Sp.own (240) true KR)])] PP.a6f (a0c b8w (a0i _ _ _ _ _)) Go.Proofs.Tryz.func125 (fun x r h=>(S.b2g x r h).imp fun k hk=>(PP.b1q k x).trans hk)
def ct_i_setOf:Ct:=⟨[PK.bo (Kd.sl Kd.bool)],false,[(false,[RC.own aI])],S.c4h,[]⟩
theorem v_i_setOf:a0m Go.Proofs.Tryz.prog gl 83 ct_i_setOf:=VV mixed a2p [] [(3,[(9,dI),(8,dI),(7,Sp.dat true (Kd.sl Kd.bool)),(3,Sp.own (48) true aI)])] P.i_setOf (a0i _ _ _ _ _) Go.Proofs.Tryz.func83 S.i_setOf_ok
def b2k:Ct:=⟨[PK.ro lI,pI],false,[(false,[RC.own aI])],S.a1j,[]⟩
theorem b2z:a0m Go.Proofs.Tryz.prog gl 87 b2k:=VV mixed a2p [] [(8,[(8,dI),(7,Sp.own (240) true aI)])] PP.a6g (a0c b8w (a0i _ _ _ _ _)) Go.Proofs.Tryz.func87 (fun x r h=>(S.b2h x r h).imp fun k hk=>(PP.b1r k x).trans hk)
def ct_i_reach:Ct:=⟨[PK.bo mR,pI],false,[(false,[RC.own Kd.bool])],S.c4j,[]⟩
theorem v_i_reach:a0m Go.Proofs.Tryz.prog gl 183 ct_i_reach:=VV mixed a2p [] [(7,[(29,dI),(28,dI),(27,Sp.dat true lR),(5,Sp.own (88) true Kd.bool),(6,Sp.own (128) true aI),(0,Sp.dat true mR)]),(4,[(6,Sp.own (128) true aI),(0,Sp.dat true mR),(5,Sp.own (88) true Kd.bool)])] P.i_reach (a0c a6h (a0i _ _ _ _ _)) Go.Proofs.Tryz.func183 S.i_reach_ok
def ct_i_reaches:Ct:=⟨[PK.bo mR],false,[(false,[RC.ro (Kd.sl (Kd.sl Kd.bool))])],S.b5z,[]⟩
theorem v_i_reaches:a0m Go.Proofs.Tryz.prog gl 137 ct_i_reaches:=VV mixed a2p [] [(3,[(8,dI),(7,dI),(3,Sp.own (40) true (Kd.sl Kd.bool)),(0,Sp.dat true mR)])] P.c9y (a0c v_i_reach (a0i _ _ _ _ _)) Go.Proofs.Tryz.func137 S.i_reaches_ok
def ct_i_classes:Ct:=⟨[PK.bo mR],true,[(false,[RC.own aI]),(false,[RC.ro (Kd.sl Kd.bool)])],S.b6a,[]⟩
theorem v_i_classes:a0m Go.Proofs.Tryz.prog gl 65 ct_i_classes:=VV mixed a2p [] [(9,[(29,dI),(28,dI),(4,Sp.dat false (Kd.sl (Kd.sl Kd.bool))),(7,dI),(5,Sp.own (120) true aI),(6,Sp.own (128) true Kd.bool),(8,Sp.dat false Kd.bool),(19,dI),(18,dI),(0,Sp.dat true mR)]),(4,[(19,dI),(18,dI),(5,Sp.own (120) true aI),(0,Sp.dat true mR),(4,Sp.dat false (Kd.sl (Kd.sl Kd.bool))),(6,Sp.own (128) true Kd.bool)])] P.c9z (a0c b2z (a0c v_i_reaches (a0i _ _ _ _ _))) Go.Proofs.Tryz.func65 S.i_classes_ok
def ct_i_rat_mul:Ct:=⟨[pR,pR],false,[(true,[RC.ro KR])],S.a5l,[]⟩
theorem d1h:a0m Go.Proofs.Tryz.prog gl 118 ct_i_rat_mul:=VV mixed a2p [] [] P.d0a (a0c b7g (a0c v_i_lowest (a0c b6b (a0c a6h (a0i _ _ _ _ _))))) Go.Proofs.Tryz.func118 S.i_rat_mul_ok
def ct_i_rat_over:Ct:=⟨[pR,pR],false,[(true,[RC.ro KR])],S.a4r,[]⟩
theorem c6s:a0m Go.Proofs.Tryz.prog gl 141 ct_i_rat_over:=VV mixed a2p [] [] P.i_rat_over (a0c d1h (a0i _ _ _ _ _)) Go.Proofs.Tryz.func141 S.i_rat_over_ok
def ct_i_scaled:Ct:=⟨[PK.ro lR,pR],false,[(false,[RC.ro lR])],S.b7c,[]⟩
theorem v_i_scaled:a0m Go.Proofs.Tryz.prog gl 81 ct_i_scaled:=VV mixed a2p [] [(3,[(11,dI),(10,dI),(9,Sp.dat false lR),(5,Sp.own (64) true KR),(3,Sp.var (24) KR)])] P.i_scaled (a0c c6s (a0i _ _ _ _ _)) Go.Proofs.Tryz.func81 S.i_scaled_ok
def ct_i_summ:Ct:=⟨[PK.mu KR],false,[(true,[RC.ro KR])],S.i_summ,[]⟩
theorem v_i_summ:a0m Go.Proofs.Tryz.prog gl 78 ct_i_summ:=VV mixed a2p [] [(3,[(9,dI),(8,dI),(7,Sp.own (0) false KR),(3,Sp.var (24) KR),(2,Sp.var (16) KR)])] P.i_summ (a0c b6b (a0c c1k (a0i _ _ _ _ _))) Go.Proofs.Tryz.func78 S.i_summ_ok
def ct_i_restOf:Ct:=⟨[PK.mr KR],false,[(false,[RC.ro lR])],S.c0g,[]⟩
theorem v_i_restOf:a0m Go.Proofs.Tryz.prog gl 181 ct_i_restOf:=VV mixed a2p [] [(22,[(98,dI),(97,dI),(9,Sp.var (72) KR),(7,Sp.own (712) true KR),(0,Sp.rows (0) false KR),(8,dI)]),(18,[(8,dI),(0,Sp.rows (0) false KR),(7,Sp.own (712) true KR)]),(11,[(54,dI),(53,dI),(0,Sp.rows (0) false KR),(5,dI),(3,dI),(26,dI),(25,dI),(4,Sp.var (32) KR)]),(6,[(26,dI),(25,dI),(0,Sp.rows (0) false KR),(3,dI),(4,Sp.var (32) KR)]),(2,[(3,dI),(0,Sp.rows (0) false KR)])] P.i_restOf (a0c b6b (a0c a6h (a0c c1k (a0c d1h (a0c c6s (a0c v_i_scaled (a0c v_i_summ (a0i _ _ _ _ _)))))))) Go.Proofs.Tryz.func181 S.i_restOf_ok
def ct_i_rest:Ct:=⟨[PK.ro mR],true,[(false,[RC.ro lR]),(false,[RC.ro Kd.bool])],S.i_rest,[]⟩
theorem v_i_rest:a0m Go.Proofs.Tryz.prog gl 130 ct_i_rest:=VV mixed a2p [1000047,1000074] [(26,[(85,dI),(84,dI),(83,Sp.dat false lR),(16,Sp.own (648) true KR),(7,dL)]),(18,[(57,dI),(56,dI),(55,dL),(13,Sp.own (432) true KR),(0,Sp.dat false mR),(12,dI),(10,Sp.rows (376) true KR),(50,dI),(49,dI),(48,dL),(7,dL)]),(14,[(50,dI),(49,dI),(48,dL),(7,dL),(0,Sp.dat false mR),(10,Sp.rows (376) true KR)]),(7,[(32,dI),(31,dI),(30,dL),(6,dL),(7,Sp.own (232) true aI),(0,Sp.dat false mR)])] P.i_rest (a0c b2y (a0c b6b (a0c v_i_setOf (a0c v_i_classes (a0c v_i_restOf (a0i _ _ _ _ _)))))) Go.Proofs.Tryz.func130 S.i_rest_ok
def c7w:Ct:=⟨[PK.bo (Kd.st mT)],true,[(false,[RC.ro mR]),(false,[RC.ro lR]),(false,[RC.ro Kd.bool])],S.b3e,[]⟩
theorem d1i (hM:InM gl) (hR:InR gl) (hS:InS gl):a0m Go.Proofs.Tryz.prog gl 127 c7w:=VV mixed a2p [] [] P.b3d (a0c (v_i_chainOf hM hR hS) (a0c v_i_rest (a0i _ _ _ _ _))) Go.Proofs.Tryz.func127 S.c8c
def c4w:Ct:=⟨[PK.bo (Kd.st mT)],true,[(false,[RC.own Kd.str]),(false,[RC.ro Kd.bool])],S.a5r,[]⟩
theorem c7x (hM:InM gl) (hP:InP gl) (hR:InR gl) (hS:InS gl):a0m Go.Proofs.Tryz.prog gl 57 c4w:=VV mixed a2p [] [] P.b1l (a0c (v_i_toldList hP) (a0c (d1i hM hR hS) (a0i _ _ _ _ _))) Go.Proofs.Tryz.func57 S.c5t
def b6c:Ct:=⟨[PK.bo (Kd.st mT)],false,rB,S.a6l,[]⟩
theorem v_l_FnExactSharesOfRest (hM:InM gl) (hP:InP gl) (hR:InR gl) (hS:InS gl):a0m Go.Proofs.Tryz.prog gl 13 b6c:=VV mixed a2p [] [] P.a3c (a0c v_l_szChain (a0c b7e (a0c b8s (a0c d0h (a0c d0k (a0c v_l_markChain (a0c v_l_toChaino (a0c c7s (a0c (c7x hM hP hR hS) (a0i _ _ _ _ _)))))))))) Go.Proofs.Tryz.func13 S.b6i
end Go.Cm.LnSharesOfRest
end
