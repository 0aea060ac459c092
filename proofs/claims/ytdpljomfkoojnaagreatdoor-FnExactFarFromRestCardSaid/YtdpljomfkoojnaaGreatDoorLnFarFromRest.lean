import Derived.Test.YtdpljomfkoojnaaGreatDoorPlFarFromRest
import Derived.Test.YtdpljomfkoojnaaGreatDoorChecked
import Derived.Test.YtdpljomfkoojnaaGreatDoorL4zShelf
import Derived.WalkKit
import Derived.BigCall
import Derived.BigGuard
import Derived.Lib.ItoaMem
import Derived.Lib.AppendIntMem
set_option linter.unusedVariables false
set_option maxRecDepth 100000
noncomputable section
namespace Go.Cm.LnFarFromRest
open Go.RowKit Go.Proofs
abbrev oR (k:Kd):RK:=(false,[RC.ro k])
abbrev KR:Kd:=Kd.st (Kd.pair Kd.bool (Kd.pair (Kd.sl (Kd.int .u32)) (Kd.sl (Kd.int .u32))))
abbrev KS:Kd:=Kd.st (Kd.pair Kd.bool (Kd.pair (Kd.sl (Kd.int .i64)) (Kd.sl (Kd.int .i64))))
abbrev aI:=Kd.int .i64
abbrev aU:=Kd.int .u32
abbrev lI:=Kd.sl aI
abbrev lU:=Kd.sl aU
abbrev lR:=Kd.sl KR
abbrev lS:=Kd.sl KS
abbrev mR:=Kd.sl lR
abbrev mS:=Kd.sl lS
abbrev lT:=Kd.sl Kd.str
abbrev mT:=Kd.sl lT
abbrev dI:=Sp.dat false aI
abbrev dL:=Sp.dat false lI
abbrev pR:=PK.ro KR
abbrev pS:=PK.ro KS
abbrev pI:=PK.ro aI
abbrev rB:List RK:=[(false,[.ro .bool])]
variable {gl:List (Nat×List Value)}
def td:List (Nat×Td):=[(2,⟨Kd.int IntKind.i64,8,false,0,[]⟩),(3,⟨Kd.int IntKind.i64,8,false,0,[]⟩),(4,⟨Kd.bool,1,false,0,[]⟩),(5,⟨Kd.int IntKind.u8,1,false,0,[]⟩),(9,⟨Kd.str,16,false,0,[]⟩),(20,⟨Kd.er,16,false,0,[]⟩),(22,⟨Kd.sl lT,24,false,36,[]⟩),(24,⟨Kd.st mT,24,true,0,[(0,22)]⟩),(26,⟨Kd.sl aI,24,false,2,[]⟩),(29,⟨Kd.st mT,24,true,0,[(0,22)]⟩),(36,⟨Kd.sl Kd.str,24,false,9,[]⟩),(69,⟨Kd.sl lS,24,false,86,[]⟩),(71,⟨Kd.st mS,24,true,0,[(0,69)]⟩),(74,⟨Kd.pt (Kd.st mT),8,false,0,[]⟩),(77,⟨Kd.pt (Kd.st mS),8,false,0,[]⟩),(79,⟨Kd.sl lR,24,false,97,[]⟩),(82,⟨Kd.sl Kd.bool,24,false,4,[]⟩),(86,⟨Kd.sl KS,24,false,92,[]⟩),(92,⟨KS,56,true,0,[(0,4),(1,26),(2,26)]⟩),(97,⟨Kd.sl KR,24,false,104,[]⟩),(102,⟨Kd.sl aU,24,false,209,[]⟩),(104,⟨KR,56,true,0,[(0,4),(1,102),(2,102)]⟩),(166,⟨Kd.sl (Kd.sl Kd.bool),24,false,82,[]⟩),(170,⟨Kd.sl (Kd.int IntKind.u8),24,false,5,[]⟩),(172,⟨Kd.int IntKind.u64,8,false,0,[]⟩),(194,⟨Kd.int IntKind.u64,8,false,0,[]⟩),(199,⟨Kd.sl aI,24,false,3,[]⟩),(209,⟨Kd.int IntKind.u32,4,false,0,[]⟩),(224,⟨Kd.er,16,false,0,[]⟩)]
theorem a2n:a6s ⟨Tryz.prog,td,[],[],[]⟩ Tryz.prog:=a2r (tdN Tryz.underlying2) (a2r (tdN Tryz.underlying3) (a2r (tdN Tryz.underlying4) (a2r (tdN Tryz.underlying5) (a2r (tdN Tryz.underlying9) (a2r (tdN ⟨_,Tryz.underlying20⟩) (a2r (tdN Tryz.underlying22) (a2r (tdN ⟨_,Tryz.underlying24,by kernel_rfl,by kernel_rfl⟩) (a2r (tdN Tryz.underlying26) (a2r (tdN ⟨_,Tryz.underlying29,by kernel_rfl,by kernel_rfl⟩) (a2r (tdN Tryz.underlying36) (a2r (tdN Tryz.underlying69) (a2r (tdN ⟨_,Tryz.underlying71,by kernel_rfl,by kernel_rfl⟩) (a2r (.of (by kernel_rfl) (.inl rfl) rfl ⟨_,Tryz.underlying74⟩) (a2r (.of (by kernel_rfl) (.inl rfl) rfl ⟨_,Tryz.underlying77⟩) (a2r (tdN Tryz.underlying79) (a2r (tdN Tryz.underlying82) (a2r (tdN Tryz.underlying86) (a2r (tdN ⟨_,Tryz.underlying92,by kernel_rfl,by kernel_rfl⟩) (a2r (tdN Tryz.underlying97) (a2r (tdN Tryz.underlying102) (a2r (tdN ⟨_,Tryz.underlying104,by kernel_rfl,by kernel_rfl⟩) (a2r (tdN Tryz.underlying166) (a2r (tdN Tryz.underlying170) (a2r (tdN Tryz.underlying172) (a2r (tdN Tryz.underlying194) (a2r (tdN Tryz.underlying199) (a2r (tdN Tryz.underlying209) (a2r (tdN ⟨_,Tryz.underlying224⟩) (tdsNil _ _ _ _)))))))))))))))))))))))))))))
theorem mixed:Tryz.prog.follows .mixedOrders=true:=by kernel_rfl
def InP (gl:List (Nat×List Value)):Prop:=(3,Go.Lib.pow10Tab.map fun z=>Value.int .u64 z)∈gl
def InM (gl:List (Nat×List Value)):Prop:=∃m,(0,[Value.int .i64 m])∈gl
def InS (gl:List (Nat×List Value)):Prop:=∃t p,(1,[Value.iface t p])∈gl
def InR (gl:List (Nat×List Value)):Prop:=∃t p,(2,[Value.iface t p])∈gl
def d4y:Ct:=⟨[PK.bo lT,pI],false,[oR aI],S.a5m,[]⟩
theorem c4m:a0l Tryz.prog gl 24 d4y:=VV mixed a2n [] [(5,[(5,dI),(0,Sp.dat true lT),(1,dI)])] P.c1z cN Tryz.func24 S.d4h
def d1p:Ct:=⟨[PK.bo mT,pI],false,[oR aI],S.a8u,[]⟩
theorem d4z:a0l Tryz.prog gl 60 d1p:=VV mixed a2n [] [(5,[(5,dI),(0,Sp.dat true mT),(1,dI)])] P.b9d (a0b c4m cN) Tryz.func60 S.c9r
def e4e:Ct:=⟨[PK.bo (Kd.st mT),pI],false,[oR aI],S.b9e,[]⟩
theorem e8v:a0l Tryz.prog gl 15 e4e:=VV mixed a2n [] [] P.c3f (a0b d4z cN) Tryz.func15 S.e1r
def d1q:Ct:=⟨[pI],false,[oR aI],S.a0p,[]⟩
theorem a6g:a0l Tryz.prog gl 74 d1q:=VV mixed a2n [] [] P.a5g cN Tryz.func74 S.c9s
def d5a:Ct:=⟨[PK.bo lT,PK.ro Kd.bool],false,[oR (Kd.sv Kd.str)],S.a2l,[]⟩
theorem c4n:a0l Tryz.prog gl 26 d5a:=VV mixed a2n [] [(9,[(7,dI),(5,Sp.own (160) true Kd.str),(0,Sp.dat true lT)]),(5,[(6,dI),(0,Sp.dat true lT),(5,Sp.own (160) true Kd.str)])] P.c2a (a0b a6g cN) Tryz.func26 S.d4i
def d5b:Ct:=⟨[PK.bo lT,PK.bo lT],false,rB,S.a5n,[]⟩
theorem c4o:a0l Tryz.prog gl 28 d5b:=VV mixed a2n [] [(4,[(5,dI),(0,Sp.dat true lT),(1,Sp.dat true lT)])] P.c2b cN Tryz.func28 S.d4j
def c4p:Ct:=⟨[PK.bo (Kd.sv Kd.str),PK.bo (Kd.sv Kd.str)],false,rB,S.a4y,[]⟩
theorem b6p:a0l Tryz.prog gl 29 c4p:=VV mixed a2n [] [] P.a9h (a0b a6g (a0b c4o cN)) Tryz.func29 S.c3g
def d1r:Ct:=⟨[PK.bo mT,PK.ro Kd.bool],false,[oR (Kd.sv (Kd.sv Kd.str))],S.a6u,[]⟩
theorem d5c:a0l Tryz.prog gl 63 d1r:=VV mixed a2n [20] [(9,[(7,dI),(5,Sp.own (160) true (Kd.sv Kd.str)),(0,Sp.dat true mT)]),(5,[(6,dI),(0,Sp.dat true mT),(5,Sp.own (160) true (Kd.sv Kd.str)),(1,Sp.dat false Kd.bool)])] P.b9f (a0b a6g (a0b c4n cN)) Tryz.func63 S.c9t
def d1s:Ct:=⟨[PK.bo lT,PK.ro Kd.bool],false,[(false,[RC.ov Kd.str])],S.a6q,[]⟩
theorem d5d:a0l Tryz.prog gl 26 d1s:=VV mixed a2n [] [(9,[(7,dI),(5,Sp.own (160) true Kd.str),(0,Sp.dat true lT)]),(5,[(6,dI),(0,Sp.dat true lT),(5,Sp.own (160) true Kd.str)])] P.b9g (a0b a6g cN) Tryz.func26 S.c9u
def c8i:Ct:=⟨[PK.bo mT,PK.ro Kd.bool],false,[(false,[RC.rows Kd.str])],S.b7e,[]⟩
theorem d1t:a0l Tryz.prog gl 63 c8i:=VV mixed a2n [1000020] [(9,[(7,dI),(5,Sp.rows (160) true Kd.str),(0,Sp.dat true mT)]),(5,[(6,dI),(0,Sp.dat true mT),(5,Sp.rows (160) true Kd.str),(1,Sp.dat false Kd.bool)])] P.b7d (a0b a6g (a0b d5d cN)) Tryz.func63 S.c7y
def e4f:Ct:=⟨[PK.bo (Kd.st mT),PK.ro Kd.bool],false,[(true,[RC.ro (Kd.st (Kd.sv (Kd.sv Kd.str)))])],S.b1w,[]⟩
theorem e8w:a0l Tryz.prog gl 17 e4f:=VV mixed a2n [] [] P.c3h (a0b d5c (a0b d1t cN)) Tryz.func17 S.e1w
def d1u:Ct:=⟨[PK.bo mT,PK.bo mT],false,rB,S.b1x,[]⟩
theorem d5e:a0l Tryz.prog gl 104 d1u:=VV mixed a2n [] [(4,[(5,dI),(0,Sp.dat true mT),(1,Sp.dat true mT)])] P.b9h (a0b c4o cN) Tryz.func104 S.c9v
def c2p:Ct:=⟨[PK.bo (Kd.sv (Kd.sv Kd.str)),PK.bo (Kd.sv (Kd.sv Kd.str))],false,rB,S.a4n,[]⟩
theorem c4q:a0l Tryz.prog gl 66 c2p:=VV mixed a2n [] [(5,[(6,dI),(1,Sp.dat true (Kd.sv (Kd.sv Kd.str))),(0,Sp.dat true (Kd.sv (Kd.sv Kd.str))),(5,dI)])] P.b2q (a0b a6g (a0b b6p (a0b d5e cN))) Tryz.func66 S.c2c
def c8j:Ct:=⟨[PK.bo (Kd.st (Kd.sv (Kd.sv Kd.str))),PK.bo (Kd.st (Kd.sv (Kd.sv Kd.str)))],false,rB,S.a9j,[]⟩
theorem d1v:a0l Tryz.prog gl 20 c8j:=VV mixed a2n [] [] P.b3b (a0b c4q cN) Tryz.func20 S.c7z
def e8x:Ct:=⟨[pI],false,[oR Kd.str],S.b7f,[]⟩
theorem f4j:a0l Tryz.prog gl 217 e8x:=VV mixed a2n [] [(3,[(3,Sp.dat false (Kd.sl (Kd.int IntKind.u8))),(4,dI),(0,dI)])] P.d8b cN Tryz.func217 S.e7l
def d1w:Ct:=⟨[PK.bo lI],false,[oR Kd.str],S.a3y,[]⟩
theorem c1u:a0l Tryz.prog gl 199 d1w:=VV mixed a2n [] [(5,[(4,dI),(0,Sp.dat true lI),(3,Sp.dat false Kd.str)])] P.b9i (a0b f4j cN) Tryz.func199 S.c9w
def e4g:Ct:=⟨[PK.bo KS],false,rB,S.c3j,[]⟩
theorem e8y:a0l Tryz.prog gl 179 e4g:=VV mixed a2n [] [] P.c3i (a0b c1u cN) Tryz.func179 S.e1z
def e8z:Ct:=⟨[PK.bo lI,PK.bo lI],false,[oR aI],S.a0n,[]⟩
theorem b3y:a0l Tryz.prog gl 147 e8z:=VV mixed a2n [] [(6,[(5,dI),(0,Sp.dat true lI),(1,Sp.dat true lI)])] P.d8c cN Tryz.func147 S.e7m
def e4h:Ct:=⟨[PK.bo KS],false,[oR Kd.str],S.c3l,[]⟩
theorem e9a:a0l Tryz.prog gl 180 e4h:=VV mixed a2n [] [] P.c3k (a0b b3y (a0b c1u cN)) Tryz.func180 S.e2a
def e4i:Ct:=⟨[PK.bo KS],true,[oR Kd.str,oR Kd.bool],S.b4c,[]⟩
theorem e9b:a0l Tryz.prog gl 128 e4i:=VV mixed a2n [] [] P.c9x (a0b e8y (a0b e9a cN)) Tryz.func128 S.e2b
def e9c:Ct:=⟨[pI],false,[oR lI],S.a7e,[]⟩
theorem d7c:a0l Tryz.prog gl 194 e9c:=VV mixed a2n [] [(2,[(0,dI),(3,Sp.own (32) true aI)])] P.d8d cN Tryz.func194 S.e7o
def e9d:Ct:=⟨[pI],false,[(true,[RC.ro KS])],S.b7i,[]⟩
theorem c6q:a0l Tryz.prog gl 168 e9d:=VV mixed a2n [] [] P.d8e (a0b d7c cN) Tryz.func168 S.e7p
def e4j:Ct:=⟨[],false,[(true,[RC.ro KS])],S.a7u,[]⟩
theorem b8e:a0l Tryz.prog gl 123 e4j:=VV mixed a2n [] [] P.c9y (a0b c6q cN) Tryz.func123 S.e2c
def e4k:Ct:=⟨[PK.ro lI],false,[oR lI],S.a4e,[]⟩
theorem b4m:a0l Tryz.prog gl 191 e4k:=VV mixed a2n [] [(1,[(0,dL)])] P.e2d cN Tryz.func191 S.e2e
def d5f:Ct:=⟨[PK.bo lI,PK.bo lI],false,[oR lI],S.a1d,[]⟩
theorem b3l:a0l Tryz.prog gl 148 d5f:=VV mixed a2n [] [(7,[(23,dI),(22,dI),(5,Sp.own (120) true aI),(6,dI),(0,Sp.dat true lI),(1,Sp.dat true lI),(7,dI),(18,dI),(17,dI)]),(3,[(18,dI),(17,dI),(1,Sp.dat true lI),(5,Sp.own (120) true aI),(0,Sp.dat true lI)])] P.c2d (a0b b4m cN) Tryz.func148 S.d4m
def d9m:Ct:=⟨[PK.bo lI,pI],false,[oR aI],S.a1s,[]⟩
theorem c0d:a0l Tryz.prog gl 193 d9m:=VV mixed a2n [] [] P.b3u cN Tryz.func193 S.d8f
def d5g:Ct:=⟨[PK.bo lI,PK.bo lI],false,[oR lI],S.b0s,[]⟩
theorem d9n:a0l Tryz.prog gl 156 d5g:=VV mixed a2n [] [(4,[(7,dI),(0,Sp.dat true lI),(1,Sp.dat true lI),(6,dI),(5,Sp.own (72) true aI)])] P.c2e (a0b c0d cN) Tryz.func156 S.d4n
def d1x:Ct:=⟨[PK.bo lI,PK.bo lI],false,[oR lI],S.a6r,[]⟩
theorem d5h:a0l Tryz.prog gl 157 d1x:=VV mixed a2n [] [(4,[(12,dI),(11,dI),(0,Sp.dat true lI),(1,Sp.dat true lI),(6,dI),(5,Sp.own (72) true aI)])] P.b9j (a0b b4m (a0b c0d cN)) Tryz.func157 S.c9z
def d9o:Ct:=⟨[PK.bo lI],true,[oR aI,oR Kd.bool],S.a7f,[]⟩
theorem e4l:a0l Tryz.prog gl 209 d9o:=VV mixed a2n [] [] P.c5k (a0b c0d cN) Tryz.func209 S.d8g
def c8k:Ct:=⟨[PK.bo lI,pI],false,[(false,[RC.own aI])],S.a2a,[]⟩
theorem d1y:a0l Tryz.prog gl 211 c8k:=VV mixed a2n [] [(4,[(16,dI),(15,dI),(14,Sp.dat true lI),(1,dI),(6,dI),(5,Sp.own (104) true aI)])] P.b7j cN Tryz.func211 S.c8a
def c8l:Ct:=⟨[PK.bo lI,pI],true,[oR lI,oR aI],S.a3b,[]⟩
theorem d1z:a0l Tryz.prog gl 210 c8l:=VV mixed a2n [] [(4,[(8,dI),(7,dI),(0,Sp.dat true lI),(6,Sp.own (96) true aI),(1,dI)])] P.b7k (a0b b4m cN) Tryz.func210 S.c8b
def d2a:Ct:=⟨[PK.mu aI,PK.bo lI,pI,pI],false,rB,S.a5h,[]⟩
theorem d5i:a0l Tryz.prog gl 212 d2a:=VV mixed a2n [] [(3,[(15,dI),(14,dI),(13,Sp.dat true lI),(0,Sp.own (0) false aI),(2,dI),(3,dI),(9,dI),(1,Sp.dat true lI)])] P.b5e cN Tryz.func212 S.d0a
def d2b:Ct:=⟨[PK.mu aI,PK.bo lI,pI],true,[],S.a5i,[]⟩
theorem d5j:a0l Tryz.prog gl 213 d2b:=VV mixed a2n [] [(2,[(12,dI),(11,dI),(10,Sp.dat true lI),(0,Sp.own (0) false aI),(2,dI),(6,dI),(1,Sp.dat true lI)])] P.b5f cN Tryz.func213 S.d0b
def d5k:Ct:=⟨[PK.bo lI,PK.bo lI],true,[oR lI,oR lI],S.a4u,[]⟩
theorem c4r:a0l Tryz.prog gl 192 d5k:=VV mixed a2n [] [(21,[(19,dI),(14,dL),(15,dI),(20,dI),(13,Sp.own (624) true aI),(17,dI),(16,Sp.own (744) true aI),(12,dI)]),(17,[(17,dI),(13,Sp.own (624) true aI),(15,dI),(14,dL),(16,Sp.own (744) true aI),(12,dI)])] P.c3d (a0b b4m (a0b d7c (a0b b3y (a0b e4l (a0b d1y (a0b d1z (a0b d5i (a0b d5j cN)))))))) Tryz.func192 S.d6e
def e9e:Ct:=⟨[PK.ro lI,PK.ro lI],false,[oR lI],S.a3l,[]⟩
theorem d7d:a0l Tryz.prog gl 164 e9e:=VV mixed a2n [] [(1,[(1,dL),(0,dL)])] P.e0z (a0b c4r cN) Tryz.func164 S.f0q
def e4m:Ct:=⟨[PK.ro Kd.bool,PK.ro lI,PK.ro lI],false,[(true,[RC.ro KS])],S.a6c,[]⟩
theorem c2q:a0l Tryz.prog gl 155 e4m:=VV mixed a2n [] [] P.d3x (a0b b3y (a0b c4r (a0b d7d cN))) Tryz.func155 S.e6u
def e9f:Ct:=⟨[PK.bo KS,PK.bo KS],false,[(true,[RC.ro KS])],S.a3x,[]⟩
theorem c0z:a0l Tryz.prog gl 97 e9f:=VV mixed a2n [] [] P.e1a (a0b b3y (a0b b3l (a0b d9n (a0b d5h (a0b c2q cN))))) Tryz.func97 S.f0r
def c8m:Ct:=⟨[pS],false,[(true,[RC.ro KS])],S.a7m,[]⟩
theorem d2c:a0l Tryz.prog gl 167 c8m:=VV mixed a2n [] [] P.b8p cN Tryz.func167 S.c8z
def d9p:Ct:=⟨[pS,pS],false,[(true,[RC.ro KS])],S.a4b,[]⟩
theorem c0e:a0l Tryz.prog gl 113 d9p:=VV mixed a2n [] [] P.d7t (a0b d2c (a0b c0z cN)) Tryz.func113 S.e1b
def e4n:Ct:=⟨[PK.bo KS,PK.bo KS],false,[(true,[RC.ro KS])],S.a6d,[]⟩
theorem d2d:a0l Tryz.prog gl 98 e4n:=VV mixed a2n [] [] P.d3y (a0b b3l (a0b c2q cN)) Tryz.func98 S.e6v
def c8n:Ct:=⟨[PK.ro lS,PK.ro lS],false,[(true,[RC.ro KS])],S.a7n,[]⟩
theorem d2e:a0l Tryz.prog gl 129 c8n:=VV mixed a2n [] [(3,[(11,dI),(10,dI),(0,Sp.dat false lS),(1,Sp.dat false lS),(5,Sp.var (40) KS),(4,Sp.var (32) KS)])] P.b8q (a0b c6q (a0b b8e (a0b c0z (a0b c0e (a0b d2d cN))))) Tryz.func129 S.c9a
def f4k:Ct:=⟨[pI,pI,pI],false,rB,S.e1d,[]⟩
theorem f8r:a0l Tryz.prog gl 142 f4k:=VV mixed a2n [] [] P.e1c cN Tryz.func142 S.f5l
def e9g:Ct:=⟨[PK.ro Kd.str,PK.ro (Kd.int IntKind.u8)],false,[(false,[RC.own Kd.str])],S.a8l,[]⟩
theorem f4l:a0l Tryz.prog gl 161 e9g:=VV mixed a2n [] [(4,[(7,dI),(0,Sp.dat false Kd.str),(1,Sp.dat false (Kd.int IntKind.u8)),(5,Sp.own (64) true Kd.str),(6,dI)])] P.e1e cN Tryz.func161 S.f0s
def d2f:Ct:=⟨[PK.ro Kd.str],false,[oR lI],S.a0s,[]⟩
theorem d5l:a0l Tryz.prog gl 163 d2f:=VV mixed a2n [] [(10,[(7,dI),(4,dI),(6,dI),(0,Sp.dat false Kd.str),(3,Sp.own (64) true aI)]),(3,[(4,dI),(0,Sp.dat false Kd.str),(3,Sp.own (64) true aI)])] P.c0m (a0b b4m cN) Tryz.func163 S.d3z
def d5m:Ct:=⟨[PK.ro Kd.str],false,rB,S.a0x,[]⟩
theorem d9q:a0l Tryz.prog gl 162 d5m:=VV mixed a2n [] [(2,[(3,dI),(0,Sp.dat false Kd.str)])] P.c3e cN Tryz.func162 S.d6f
def d9r:Ct:=⟨[PK.ro Kd.str],true,[(true,[RC.ro KS]),oR Kd.bool],S.b4a,[]⟩
theorem e4o:a0l Tryz.prog gl 110 d9r:=VV mixed a2n [] [] P.c7f (a0b f4l (a0b b3y (a0b d7d (a0b d5l (a0b d9q cN))))) Tryz.func110 S.e1f
def e4p:Ct:=⟨[PK.bo lT],true,[oR lS,oR Kd.bool],S.b2o,[]⟩
theorem d2g:a0l Tryz.prog gl 68 e4p:=VV mixed a2n [] [(5,[(14,dI),(13,dI),(0,Sp.dat true lT),(4,Sp.own (88) true KS)])] P.d4a (a0b e4o cN) Tryz.func68 S.e6w
def e9h:Ct:=⟨[],false,[(true,[RC.ro KS])],S.b3p,[]⟩
theorem d7e:a0l Tryz.prog gl 114 e9h:=VV mixed a2n [] [] P.e1g (a0b c6q cN) Tryz.func114 S.f0t
def d9s:Ct:=⟨[PK.bo KS,PK.bo KS],false,rB,S.b1j,[]⟩
theorem e4q:a0l Tryz.prog gl 90 d9s:=VV mixed a2n [] [] P.c7g (a0b b3y (a0b b3l cN)) Tryz.func90 S.e1h
def d9t:Ct:=⟨[PK.bo lS],false,[(true,[RC.ro KS])],S.b4b,[]⟩
theorem e4r:a0l Tryz.prog gl 71 d9t:=VV mixed a2n [] [(3,[(8,dI),(7,dI),(3,Sp.var (24) KS),(0,Sp.dat true lS),(2,Sp.var (16) KS)])] P.c7h (a0b b8e (a0b c0z cN)) Tryz.func71 S.e1i
def c8o:Ct:=⟨[PK.bo lS],false,rB,S.b0d,[]⟩
theorem d2h:a0l Tryz.prog gl 69 c8o:=VV mixed a2n [] [(2,[(6,dI),(5,dI),(0,Sp.dat true lS)])] P.b8s cN Tryz.func69 S.c9b
def d2i:Ct:=⟨[PK.bo lS],false,rB,S.a4q,[]⟩
theorem c1v:a0l Tryz.prog gl 133 d2i:=VV mixed a2n [] [] P.c0n (a0b d7e (a0b e4q (a0b e4r (a0b d2h cN)))) Tryz.func133 S.d4b
def d9u:Ct:=⟨[PK.bo (Kd.pt (Kd.st mT))],true,[(true,[RC.ro (Kd.st mS)]),oR Kd.bool],S.b6z,[]⟩
theorem e4s:a0l Tryz.prog gl 61 d9u:=VV mixed a2n [] [(6,[(27,dI),(26,dI),(0,Sp.dat true (Kd.pt (Kd.st mT))),(4,dI),(2,Sp.var (16) (Kd.st mS)),(5,Sp.vow (40) (512) lS)])] P.c7i (a0b d2g (a0b c1v cN)) Tryz.func61 S.e1j
def d9v:Ct:=⟨[PK.bo KS,PK.bo KS],false,[(true,[RC.ro KS])],S.a7o,[]⟩
theorem c7u:a0l Tryz.prog gl 112 d9v:=VV mixed a2n [] [] P.c7j (a0b b3l (a0b c2q cN)) Tryz.func112 S.e1k
def e4t:Ct:=⟨[PK.bo (Kd.pt (Kd.st mS)),PK.bo lS],false,[oR lS],S.b7a,[]⟩
theorem e9i:a0l Tryz.prog gl 159 e4t:=VV mixed a2n [] [(7,[(18,dI),(17,dI),(7,Sp.var (56) KS),(1,Sp.dat true lS),(0,Sp.dat true (Kd.pt (Kd.st mS))),(6,dI),(5,Sp.own (72) true KS),(12,dI),(11,dI)]),(3,[(12,dI),(11,dI),(1,Sp.dat true lS),(0,Sp.dat true (Kd.pt (Kd.st mS))),(5,Sp.own (72) true KS)])] P.d4c (a0b b8e (a0b c0z (a0b c7u cN))) Tryz.func159 S.e6x
def d9w:Ct:=⟨[PK.bo (Kd.pt (Kd.st mT)),PK.bo lT,pI],true,[(true,[RC.ro (Kd.st mS)]),oR lS,oR Kd.bool],S.b7b,[]⟩
theorem e4u:a0l Tryz.prog gl 106 d9w:=VV mixed a2n [] [(5,[(2,dI),(11,Sp.dat false lS),(9,Sp.var (72) mS),(6,Sp.var (48) (Kd.st mS))])] P.c7k (a0b f8r (a0b d2g (a0b c1v (a0b e4s (a0b e9i cN))))) Tryz.func106 S.e1l
def e9j:Ct:=⟨[PK.bo lI,pI],false,rB,S.b3t,[]⟩
theorem d7f:a0l Tryz.prog gl 135 e9j:=VV mixed a2n [] [(2,[(5,dI),(0,Sp.dat true lI),(1,dI)])] P.e1m cN Tryz.func135 S.f0u
def e9k:Ct:=⟨[PK.ro lI,pI],false,[oR lI],S.c1j,[]⟩
theorem f4m:a0l Tryz.prog gl 145 e9k:=VV mixed a2n [] [(4,[(7,dI),(0,dL),(6,Sp.dat false Kd.bool),(1,dI),(5,Sp.own (64) true aI)])] P.e1n cN Tryz.func145 S.f0v
def e4v:Ct:=⟨[PK.bo KS],false,rB,S.b0e,[]⟩
theorem d2j:a0l Tryz.prog gl 70 e4v:=VV mixed a2n [] [] P.c0o cN Tryz.func70 S.e6y
def d9x:Ct:=⟨[PK.bo (Kd.pt (Kd.st mS)),pI],false,[oR lI],S.b1k,[]⟩
theorem e4w:a0l Tryz.prog gl 134 d9x:=VV mixed a2n [] [(7,[(24,dI),(23,dI),(0,Sp.dat true (Kd.pt (Kd.st mS))),(5,Sp.own (80) true aI),(7,dI),(6,dL)]),(4,[(7,dI),(5,Sp.own (80) true aI),(0,Sp.dat true (Kd.pt (Kd.st mS))),(6,dL)])] P.c7l (a0b d7f (a0b f4m (a0b d2j cN))) Tryz.func134 S.e1o
def d2k:Ct:=⟨[PK.bo (Kd.pt (Kd.st mS))],true,[(false,[RC.own aI]),oR lI],S.a9d,[]⟩
theorem d5n:a0l Tryz.prog gl 62 d2k:=VV mixed a2n [] [(16,[(43,dI),(42,dI),(0,Sp.dat true (Kd.pt (Kd.st mS))),(9,dL),(8,dI),(4,Sp.own (136) true aI),(7,dI),(10,Sp.dat false Kd.bool),(6,Sp.own (216) true aI),(30,dI),(29,dI)]),(10,[(30,dI),(29,dI),(4,Sp.own (136) true aI),(0,Sp.dat true (Kd.pt (Kd.st mS))),(7,dI),(6,Sp.own (216) true aI)]),(3,[(20,dI),(19,dI),(4,Sp.own (136) true aI),(0,Sp.dat true (Kd.pt (Kd.st mS)))])] P.c0p (a0b d7f (a0b e4w cN)) Tryz.func62 S.d4d
def e4x:Ct:=⟨[PK.mr KS,pI,pI],true,[],S.b7c,[]⟩
theorem e9l:a0l Tryz.prog gl 198 e4x:=VV mixed a2n [] [] P.c5i cN Tryz.func198 S.e6z
def d9y:Ct:=⟨[PK.mr KS],true,[oR lS,oR Kd.bool],S.b3x,[]⟩
theorem e4y:a0l Tryz.prog gl 178 d9y:=VV mixed a2n [] [(22,[(11,dI),(4,dI),(10,Sp.own (832) true KS),(0,Sp.rows (0) false KS)]),(17,[(9,dI),(4,dI),(0,Sp.rows (0) false KS),(7,dI),(8,Sp.var (64) KS),(5,dI)]),(12,[(7,dI),(4,dI),(5,dI),(0,Sp.rows (0) false KS)]),(6,[(6,dI),(4,dI),(0,Sp.rows (0) false KS),(5,dI)]),(3,[(5,dI),(4,dI),(0,Sp.rows (0) false KS)])] P.c6g (a0b d2j (a0b c0e (a0b c7u (a0b d2d (a0b e9l cN))))) Tryz.func178 S.d9e
def e4z:Ct:=⟨[PK.pm (Kd.st mS)],true,[oR lS,oR Kd.bool],S.b6n,[]⟩
theorem e9m:a0l Tryz.prog gl 126 e4z:=VV mixed a2n [1000026,1000074] [(11,[(10,dI),(6,dI),(0,Sp.pm (Kd.st mS)),(8,dI),(9,Sp.own (256) true KS),(7,Sp.rows (208) true KS)]),(7,[(8,dI),(6,dI),(0,Sp.pm (Kd.st mS)),(7,Sp.rows (208) true KS)])] P.d1g (a0b d7e (a0b b8e (a0b c0e (a0b d5n (a0b e4y cN))))) Tryz.func126 S.e3u
def c8p:Ct:=⟨[PK.bo (Kd.st mT),PK.bo lT,pI],true,[oR Kd.str,oR Kd.bool],S.a9r,[]⟩
theorem d2l:a0l Tryz.prog gl 58 c8p:=VV mixed a2n [] [] P.b3h (a0b e9b (a0b d2e (a0b e4u (a0b e9m cN)))) Tryz.func58 S.c8f
def ct_i_in:Ct:=⟨[pI,pI,pI],false,rB,S.i_in,[]⟩
theorem v_i_in:a0l Tryz.prog gl 108 ct_i_in:=VV mixed a2n [] [] P.i_in cN Tryz.func108 S.i_in_ok
def c0f:Ct:=⟨[PK.ro (Kd.int IntKind.u64),pI],false,[oR Kd.str],S.a4p,[]⟩
set_option maxHeartbeats 6400000 in
set_option maxRecDepth 100000 in
open Go.Proofs Go.Shelf Go.RowKit Go.Sort Go.Lib in
theorem g4i (i:Nat) (hi:i<100) (w:World):
  Calls Tryz.prog 222 #[.int .u64 i, .int .i64 10] w fun e w'=>e= .returned (.string ⟨(Lib.decDigits i).toArray⟩)/\w'=w:=by
 have eSm:∀args w,(callFunc 239 args).run Tryz.prog w= .ok (.enter 239 args) w:=Go.Proofs.enters_of Tryz.func239 (by kernel_rfl) rfl
 go_enter Tryz.func222,Tryz.ntmps222
 go_wp2_with (go_at_fn 239;refine(Tryz.internal_strconv_small i hi _).mono ?_;rintro e w' ⟨rfl,rfl⟩)
 go_ret
 exact⟨rfl,rfl⟩
set_option maxHeartbeats 12800000 in
set_option maxRecDepth 100000 in
open Go.Proofs Go.Shelf Go.RowKit Go.Sort Go.Lib in
theorem fu_big (u:Nat) (hu:100<=u) (hu64:u<18446744073709551616) (w:World)
  (htab:Lib.TabIs Tryz.prog w "internal/strconv.uint64pow10" .u64 Lib.pow10Tab):
  Calls Tryz.prog 222 #[.int .u64 u, .int .i64 10] w fun e w'=>e= .returned (.string ⟨(Lib.decDigits u).toArray⟩)/\∃k os,w'=grow (w.drewN k) os:=by
 have eNd:∀args w,(callFunc 240 args).run Tryz.prog w= .ok (.enter 240 args) w:=Go.Proofs.enters_of Tryz.func240 (by kernel_rfl) rfl;have eFb:∀args w,(callFunc 241 args).run Tryz.prog w= .ok (.enter 241 args) w:=Go.Proofs.enters_of Tryz.func241 (by kernel_rfl) rfl;have hu1:1<=u:=by omega
 have hnd20:Lib.nDigits u<=20:=by have:=Lib.numDigits_eq u hu1 hu64;split at this<;>omega
 have hal:Tryz.prog.arrayLen 259=24:=by simp [Program.arrayLen,Tryz.underlying259]
 have hsl:∀W,(Instr.sliceAt 259 (.pointer (some ⟨w.heap.size,0,none⟩)) none (some (.int .i64 (Lib.nDigits u:Int))) none).run Tryz.prog W= .ok (.slice (some ⟨w.heap.size,0,none⟩) (Lib.nDigits u) 24) W:=fun W=>by
  rw[run_sliceAt_array_h W 259 ⟨w.heap.size,0,none⟩ (by simp [Program.arrayLen,Program.elem,Tryz.underlying259]) .i64 (Lib.nDigits u:Int) (by omega) (by rw[hal];omega)]
  go_simp
 have hH0:=Lib.holds_zero0 w 259 (Lib.nDigits u) (by omega);have hfmt:=Tryz.internal_strconv_formatBase10 w.heap.size 0 24 u (Array.replicate (Lib.nDigits u) 0) (w.alloc (.cells Lib.zeros24 259)) hH0 (by rw[Array.size_replicate];exact Lib.lt_pow_nDigits u) hu64 (by rw[Array.size_replicate];omega);rw[Array.size_replicate]at hfmt;have HH0:=Lib.hid hH0;have iu:(100:Int)<=(u:Int):=by omega
 clear hH0 hal
 go_enter Tryz.func222,Tryz.ntmps222
 go_wp2_with (first
  |(go_at_fn 240;refine(Tryz.internal_strconv_numDigits u hu1 hu64 _ (Lib.tabIs_alloc htab _)).mono ?_;rintro e w' ⟨rfl,rfl⟩))
 go_at_fn 241
 refine hfmt.mono ?_
 rintro e w' ⟨rfl,k,v',dk,rfl,hF⟩
 have hcv:(convert 170 9 (.slice (some ⟨w.heap.size,0,none⟩) (Lib.nDigits u) 24)).run Tryz.prog ((putRow (fun(b:UInt8)=>Value.int .u8 (b.toNat:Int)) (w.alloc (.cells Lib.zeros24 259)) w.heap.size 0 dk).drewN k)= .ok (.string ⟨(Lib.decDigits u).toArray⟩) ((putRow (fun(b:UInt8)=>Value.int .u8 (b.toNat:Int)) (w.alloc (.cells Lib.zeros24 259)) w.heap.size 0 dk).drewN k):=by
  have h:=run_convert_bytes_back (P:=Tryz.prog) ((putRow (fun(b:UInt8)=>Value.int .u8 (b.toNat:Int)) (w.alloc (.cells Lib.zeros24 259)) w.heap.size 0 dk).drewN k) 170 9 5 ⟨w.heap.size,0,none⟩ 24 (Lib.decDigits u) Tryz.underlying170 Tryz.underlying5 Tryz.underlying9 (fun j hj=>by
   rw[Lib.row_is_numeral hF j hj,Lib.add_plain,World.cell?_drewN];exact cell?_putRow (fun(b:UInt8)=>Value.int .u8 (b.toNat:Int)) _ w.heap.size 0 _ dk HH0.out (by rw[hF.size,Array.size_replicate]) j (by rw[hF.size];rw[Lib.decDigits_length]at hj;exact hj))
  rw[Lib.decDigits_length]at h;exact h
 go_wp2
 go_ret
 obtain⟨os,eo⟩:=Lib.fin_at w (.cells Lib.zeros24 259) dk k 0;exact⟨rfl,k,os,eo⟩
set_option maxRecDepth 100000 in
open Go.Proofs Go.Shelf Go.RowKit Go.Sort Go.Lib in
theorem fu_pub (n:Nat) (h:n<18446744073709551616) (w:World)
  (htab:Lib.TabIs Tryz.prog w "internal/strconv.uint64pow10" .u64 Lib.pow10Tab):
  Calls Tryz.prog 205 #[.int .u64 n, .int .i64 10] w fun e w'=>e= .returned (.string ⟨(Lib.decDigits n).toArray⟩)/\∃k os,w'=grow (w.drewN k) os:=by
 have eFu:∀args w,(callFunc 222 args).run Tryz.prog w= .ok (.enter 222 args) w:=Go.Proofs.enters_of Tryz.func222 (by kernel_rfl) rfl;have hin:Calls Tryz.prog 222 #[.int .u64 n, .int .i64 10] w fun e w'=>e= .returned (.string ⟨(Lib.decDigits n).toArray⟩)/\∃k os,w'=grow (w.drewN k) os:=by
  by_cases h1:n<100
  ·refine(g4i n h1 w).mono ?_
   rintro e w' ⟨rfl,rfl⟩
   exact⟨rfl,0, #[],by simp [World.drewN_zero]⟩
  ·exact fu_big n (by omega) h w htab
 go_enter Tryz.func205,Tryz.ntmps205
 go_wp2_with (go_at_fn 222;refine hin.mono ?_;rintro e w' ⟨rfl,k,os,rfl⟩)
 go_ret
 exact⟨rfl,k,os,rfl⟩
theorem f4n (w:World) (k:Nat) (os:Array Obj):Below w.heap.size w (Go.Sort.grow (w.drewN k) os):=⟨rfl,rfl,rfl,by simp [Go.Sort.grow,World.drewN],fun b hb=>by simp [Go.Sort.grow,World.drewN,Array.getElem?_append_left hb]⟩
theorem c1m (hP:InP gl):a0l Tryz.prog gl 205 c0f:=by
 refine b4d (enters_of Tryz.func205 (by kernel_rfl) (by kernel_rfl)) (fun _ _ _ _ _ _=>trivial) (fun w M0 W0 us x γ hl hW ha r hr=> ?_);obtain⟨n,b,q⟩:=x;obtain⟨u1,_,rfl,⟨c1,h1,h1'⟩,u2,_,rfl,⟨c2,h2,h2'⟩,rfl⟩:=ha;cases h1';cases h2';subst h1;subst h2;unfold S.a4p at hr;split at hr
 case isFalse=>cases hr
 rename_i hc;obtain⟨hb,h0,h3⟩:=hc;cases hr;dsimp only at hb h0 h3;subst hb;obtain⟨m,rfl⟩:∃m:Nat,n=(m:Int):=⟨n.toNat,(Int.toNat_of_nonneg h0).symm⟩
 rw[Int.toNat_natCast];have htab:Lib.TabIs Tryz.prog w "internal/strconv.uint64pow10" .u64 Lib.pow10Tab:=d8h hl hP (by kernel_rfl);refine(fu_pub m (by omega) w htab).mono ?_
 rintro e w' ⟨rfl,k,os,rfl⟩
 exact⟨[_],rfl,f4n _ _ _,fun M'=>⟨[_],rfl,fun _=>rfl,rfl⟩⟩
def d2m:Ct:=⟨[PK.bo lT,PK.ro Kd.str],false,[oR Kd.str],S.b2a,[]⟩
theorem d5o:a0l Tryz.prog gl 208 d2m:=by
 refine b4d (enters_of Tryz.func208 (by kernel_rfl) (by kernel_rfl)) (fun _ _ _ _ _ _=>trivial) (fun w M0 W0 us x γ hl hW ha r hr=> ?_);obtain⟨xs,sep,q⟩:=x;obtain⟨u1,_,rfl,⟨c1,h1,h1'⟩,u2,_,rfl,⟨c2,h2,h2'⟩,rfl⟩:=ha;cases h2';subst h2;obtain⟨A,c,rfl,hlc,hel⟩:=h1';subst h1;unfold S.b2a at hr;split at hr
 case isFalse=>cases hr
 rename_i hc;obtain⟨hn,hj⟩:=hc;cases hr;dsimp only at hn hj
 by_cases h0:xs.length=0
 ·have:xs=[]:=List.eq_nil_of_length_eq_zero h0;subst this;refine(Tryz.strings_Join_none A c sep w).mono ?_
  rintro e w' ⟨rfl,rfl⟩
  exact⟨[_],rfl,Below.refl _ _,fun M'=>⟨[_],rfl,fun _=>rfl,rfl⟩⟩
 ·obtain⟨b,o,rfl,hcell⟩:=hel h0;have hcells:∀(j:Nat) x,xs[j]? =some x->w.cell? ⟨b,o+j,none⟩=some (.string x):=by
   intro j x hx;obtain⟨es,e1,e2⟩:=hcell j x hx;cases e1;have:=(e2 0 _ rfl).1;simpa [Kd.sz]using this
  have hbk:b<w.heap.size:=by
   have:=hcells 0 xs[0] (List.getElem?_eq_getElem (by omega));exact World.block_lt_of_cell? _ _ this
  refine(Tryz.strings_Join b o c xs sep w hcells hbk hn hlc hj).mono ?_
  rintro e w' ⟨rfl,hbl⟩
  exact⟨[_],rfl,hbl,fun M'=>⟨[_],rfl,fun _=>rfl,rfl⟩⟩
def c6r:Ct:=⟨[PK.ro Kd.str,pI],false,[oR Kd.str],S.a8c,[]⟩
theorem c8q:a0l Tryz.prog gl 206 c6r:=by
 refine b4d (enters_of Tryz.func206 (by kernel_rfl) (by kernel_rfl)) (fun _ _ _ _ _ _=>trivial) (fun w M0 W0 us x γ hl hW ha r hr=> ?_);obtain⟨s,c,q⟩:=x;obtain⟨u1,_,rfl,⟨c1,h1,h1'⟩,u2,_,rfl,⟨c2,h2,h2'⟩,rfl⟩:=ha;cases h1';cases h2';subst h1;subst h2;unfold S.a8c at hr;split at hr
 case isFalse=>cases hr
 rename_i hc;obtain⟨g0,g1,g2⟩:=hc;dsimp only at g0 g1 g2 hr;cases hr;obtain⟨n,rfl⟩:∃n:Nat,c=(n:Int):=⟨c.toNat,(Int.toNat_of_nonneg g0).symm⟩
 have hm:s.size*n<=1000000*1000000:=Nat.mul_le_mul g2 (by omega);refine(Tryz.strings_Repeat s n w (by omega) (by omega)).mono ?_
 rintro e w' ⟨rfl,hb⟩
 exact⟨[_],rfl,hb,fun M'=>⟨[_],rfl,fun _=>rfl,rfl⟩⟩
def b0m:Ct:=⟨[PK.mu Kd.str],true,[],S.a0y,[]⟩
theorem b1d:a0l Tryz.prog gl 207 b0m:=VV mixed a2n [] [(1,[(2,dI),(3,dI),(0,Sp.own (0) false Kd.str)])] P.a3n cN Tryz.func207 S.b0l
def d9z:Ct:=⟨[PK.ro lU],false,[oR lU],S.a3z,[]⟩
theorem a8z:a0l Tryz.prog gl 196 d9z:=VV mixed a2n [] [(1,[(0,Sp.dat false lU)])] P.d6z cN Tryz.func196 S.d9g
def c6s:Ct:=⟨[PK.bo lU,PK.ro aU],true,[oR lU,oR aU],S.a3d,[]⟩
theorem b8x:a0l Tryz.prog gl 204 c6s:=VV mixed a2n [] [(3,[(8,dI),(7,Sp.dat false (Kd.int IntKind.u64)),(0,Sp.dat true lU),(6,Sp.own (88) true aU),(1,Sp.dat false aU)])] P.b6d (a0b a8z cN) Tryz.func204 S.c6i
def e0a:Ct:=⟨[PK.bo lU],false,[oR Kd.str],S.b1c,[]⟩
theorem e5a (hP:InP gl):a0l Tryz.prog gl 188 e0a:=VV mixed a2n [] [(4,[(0,Sp.dat true lU),(3,Sp.own (80) true Kd.str)])] P.c6j (a0b (c1m hP) (a0b d5o (a0b c8q (a0b b1d (a0b b8x cN))))) Tryz.func188 S.d9h
def e0b:Ct:=⟨[PK.bo KR],true,[oR Kd.str,oR Kd.bool],S.b6o,[]⟩
theorem e5b (hP:InP gl):a0l Tryz.prog gl 140 e0b:=VV mixed a2n [] [] P.c6k (a0b (e5a hP) cN) Tryz.func140 S.d9i
def f8s:Ct:=⟨[PK.bo KR],true,[oR Kd.str,oR Kd.bool],S.d1h,[]⟩
theorem g4j (hP:InP gl):a0l Tryz.prog gl 131 f8s:=VV mixed a2n [] [] P.f8j (a0b (e5b hP) cN) Tryz.func131 S.f8k
def d5p:Ct:=⟨[pI],false,[oR (Kd.int IntKind.u64)],S.b4k,[]⟩
theorem e0c:a0l Tryz.prog gl 175 d5p:=VV mixed a2n [] [] P.c2o cN Tryz.func175 S.d4v
def f4o:Ct:=⟨[PK.ro (Kd.int IntKind.u64)],false,[oR lU],S.a3h,[]⟩
theorem c0g:a0l Tryz.prog gl 174 f4o:=VV mixed a2n [] [] P.e8r (a0b a8z cN) Tryz.func174 S.f4d
def f4p:Ct:=⟨[pI],false,[(true,[RC.ro KR])],S.a3o,[]⟩
theorem b2d:a0l Tryz.prog gl 120 f4p:=VV mixed a2n [] [] P.e8s (a0b e0c (a0b c0g cN)) Tryz.func120 S.f4e
def e5c:Ct:=⟨[PK.bo lU,PK.bo lU],false,[oR aI],S.a1h,[]⟩
theorem b8f:a0l Tryz.prog gl 171 e5c:=VV mixed a2n [] [(6,[(5,dI),(0,Sp.dat true lU),(1,Sp.dat true lU)])] P.d1i cN Tryz.func171 S.e3w
def e5d:Ct:=⟨[PK.bo lU,PK.bo lU],false,[oR lU],S.a9s,[]⟩
theorem e9n:a0l Tryz.prog gl 173 e5d:=VV mixed a2n [] [(3,[(14,dI),(13,dI),(0,Sp.dat true lU),(6,dI),(1,Sp.dat true lU),(5,Sp.own (88) true aU)])] P.d1j (a0b a8z cN) Tryz.func173 S.e3x
def e5e:Ct:=⟨[PK.bo lU,PK.bo lU],false,[oR lU],S.a9t,[]⟩
theorem d2n:a0l Tryz.prog gl 172 e5e:=VV mixed a2n [] [(5,[(21,dI),(20,dI),(6,Sp.dat false (Kd.int IntKind.u64)),(0,Sp.dat true lU),(1,Sp.dat true lU),(5,Sp.own (144) true aU)])] P.c4l (a0b a8z cN) Tryz.func172 S.e3y
def e5f:Ct:=⟨[PK.bo lU,PK.bo lU],false,[oR lU],S.a2z,[]⟩
theorem b8g:a0l Tryz.prog gl 170 e5f:=VV mixed a2n [] [(7,[(26,dI),(25,dI),(24,Sp.dat true lU),(8,Sp.dat false (Kd.int IntKind.u64)),(7,Sp.dat false aU),(5,Sp.own (128) true aU),(6,dI),(1,Sp.dat true lU),(19,dI),(18,dI),(17,Sp.dat true lU)]),(3,[(19,dI),(18,dI),(17,Sp.dat true lU),(1,Sp.dat true lU),(5,Sp.own (128) true aU)])] P.d1k (a0b a8z cN) Tryz.func170 S.e3z
def b4n:Ct:=⟨[PK.ro aU],false,[oR aI],S.a3k,[]⟩
theorem b5a:a0l Tryz.prog gl 214 b4n:=by
 refine b4d (enters_of Tryz.func214 (by kernel_rfl) (by kernel_rfl)) (fun _ _ _ _ _ _=>trivial) (fun w M0 W0 us x γ hl hW ha r hr=> ?_);obtain⟨n,q⟩:=x;obtain⟨u1,_,rfl,⟨c1,h1,h1'⟩,rfl⟩:=ha;cases h1';subst h1;unfold S.a3k at hr;split at hr
 case isFalse=>cases hr
 rename_i hc;cases hr;refine(Tryz.bits_LeadingZeros32 n w hc.1 hc.2).mono ?_
 rintro e w' ⟨rfl,rfl⟩
 exact⟨[_],rfl,Below.refl _ _,fun M'=>⟨[_],rfl,fun _=>rfl,rfl⟩⟩
def c8r:Ct:=⟨[PK.bo lU,pI],false,[(false,[RC.own aU])],S.a3v,[]⟩
theorem d2o:a0l Tryz.prog gl 215 c8r:=VV mixed a2n [] [(3,[(15,dI),(14,dI),(13,Sp.dat true lU),(1,dI),(5,Sp.own (96) true aU)])] P.b8a cN Tryz.func215 S.c8g
def e0d:Ct:=⟨[PK.mu aU,PK.bo lU,PK.ro (Kd.int IntKind.u64)],false,rB,S.a8y,[]⟩
theorem e5g:a0l Tryz.prog gl 216 e0d:=VV mixed a2n [] [(18,[(59,dI),(58,dI),(7,Sp.dat false (Kd.int IntKind.u64)),(0,Sp.own (0) false aU),(1,Sp.dat true lU)]),(3,[(14,dI),(13,dI),(1,Sp.dat true lU),(7,Sp.dat false (Kd.int IntKind.u64)),(2,Sp.dat false (Kd.int IntKind.u64)),(0,Sp.own (0) false aU),(8,dI)])] P.c6l cN Tryz.func216 S.d9j
def e5h:Ct:=⟨[PK.ro lU,PK.ro lU],true,[oR lU,oR lU],S.a5d,[]⟩
theorem f4q (xs:List Int) (x:Int):c6p (xs++[x])=if x=0 then c6p xs else xs.length+1:=by
 unfold c6p;rw[List.reverse_append]
 by_cases h:x=0
 ·simp [h]
 ·simp [h]
theorem g4k (xs:List Int):c6p xs<=xs.length:=by
 unfold c6p;have:=(List.dropWhile_sublist (fun x:Int=>x==0) (l:=xs.reverse)).length_le;simpa using this
def lenOfV:Value->Nat
 | .slice _ m _=>m
 |_=>0
set_option maxHeartbeats 800000 in
set_option maxRecDepth 100000 in
theorem f4r (b o real:Nat) (xs:List Int) (w:World) (hle:xs.length<=real) (hbig:xs.length<=1000000000000) (hc:∀(i:Nat) (x:Int),xs[i]? =some x->w.cell? ⟨b,o+i,none⟩=some (.int .u32 x)):
  Calls Tryz.prog 196 #[.slice (some ⟨b,o,none⟩) xs.length real] w fun e w'=>e= .returned (.slice (some ⟨b,o,none⟩) (c6p xs) real)/\w'=w:=by
 go_enter Tryz.func196,Tryz.ntmps196
 go_wp2
 go_loopw [0] (fun v wr=>∃m:Nat,m<=xs.length/\v= .slice (some ⟨b,o,none⟩) m real/\wr=w/\c6p (xs.take m)=c6p xs) (fun v _=>lenOfV v)
 case atStart=>exact⟨xs.length,Nat.le_refl _,rfl,rfl,by rw[List.take_length]⟩
 case round=>
  obtain⟨m,hm,rfl,rfl,ht⟩:=hrel
  by_cases h0:0<m
  ·obtain⟨k,rfl⟩:∃k,m=k+1:=⟨m - 1,by omega⟩
   have hx:xs[k]? =some xs[k]:=List.getElem?_eq_getElem (by omega);have hcx:=hc k _ hx;have hw:wrap64 (((k+1:Nat):Int) - 1)=(k:Int):=by
    have e:((k+1:Nat):Int) - 1=(k:Int):=by omega
    rw[e];exact IntWalk.wrap64_in _ (by omega)
   have ht':c6p (xs.take (k+1))=if xs[k]=0 then c6p (xs.take k)else k+1:=by
    rw[<-List.take_append_getElem (show k<xs.length by omega),f4q];have:(xs.take k).length=k:=by simp;omega
    rw[this]
   go_wp2
   ·have hz:(xs[k]==0)=true:=by assumption
    have hz':xs[k]=0:=by simpa using hz
    rw[if_pos hz']at ht';exact⟨⟨k,by omega,rfl,trivial,by rw[<-ht',ht]⟩,Nat.lt_succ_self k⟩
   ·have hz:(xs[k]==0)=false:=by assumption
    have hz':¬xs[k]=0:=by simpa using hz
    rw[if_neg hz']at ht';rw[<-ht,ht']
    go_ret
    exact⟨rfl,rfl⟩
  ·have h1:m=0:=by omega
   subst h1
   go_wp2
   have h2:c6p xs=0:=by rw[<-ht];rfl
   rw[h2]
   go_ret
   exact⟨rfl,rfl⟩
set_option maxHeartbeats 800000 in
set_option maxRecDepth 100000 in
theorem e9o (A:Option Addr) (real:Nat) (w:World):
  Calls Tryz.prog 196 #[.slice A 0 real] w fun e w'=>e= .returned (.slice A 0 real)/\w'=w:=by
 go_enter Tryz.func196,Tryz.ntmps196
 go_wp2
 refine wp_loop_rounds 1 ?_;rw[rounds_succ]
 go_wp2
 go_ret
 exact⟨rfl,rfl⟩
theorem g4l:ShrOk Tryz.prog 196 IntKind.u32 c6p:=by
 refine⟨enters_of Tryz.func196 (by kernel_rfl) (by kernel_rfl),fun w u xs A real hbig hsl hno hc=> ?_⟩;obtain⟨A',rfl,hle,hA⟩:=hsl;rcases Nat.eq_zero_or_pos real with h0|h0
 ·have h1:xs=[]:=List.eq_nil_of_length_eq_zero (by omega);subst h1;refine(e9o A' real w).mono ?_
  rintro e w' ⟨rfl,rfl⟩
  exact⟨rfl,Nat.le_refl _,_,rfl,rfl,A',rfl,Nat.zero_le _,fun h=>by omega⟩
 ·obtain⟨b,o,rfl,rfl⟩:=hA h0;refine(f4r b o real xs w hle hbig (hc b o rfl)).mono ?_
  rintro e w' ⟨rfl,rfl⟩
  have:=g4k xs;exact⟨rfl,this,_,rfl,rfl,_,rfl,by omega,fun _=>⟨b,o,rfl,rfl⟩⟩
theorem d2p:a0l Tryz.prog gl 195 e5h:=VV mixed a2n [] [(26,[(148,dI),(147,dI),(9,Sp.own (400) true aU),(8,dI),(13,Sp.own (592) true aU)]),(17,[(17,Sp.dat false (Kd.int IntKind.u64)),(12,Sp.dat false (Kd.int IntKind.u64)),(18,Sp.dat false (Kd.int IntKind.u64)),(9,Sp.own (400) true aU),(15,dI),(11,Sp.dat false (Kd.int IntKind.u64)),(14,dI),(10,Sp.dat false lU),(13,Sp.own (592) true aU),(8,dI)]),(12,[(14,dI),(10,Sp.dat false lU),(9,Sp.own (400) true aU),(11,Sp.dat false (Kd.int IntKind.u64)),(12,Sp.dat false (Kd.int IntKind.u64)),(13,Sp.own (592) true aU),(8,dI)])] P.d1l (a0b b5a (a0b a8z (a0b b8f (a0b b8x (a0b d2o (a0b e5g (ctsShr (s:=(IntKind.u32,c6p)) g4l))))))) Tryz.func195 S.e4a
def d5q:Ct:=⟨[PK.bo lU],true,[oR (Kd.int IntKind.u64),oR Kd.bool],S.a5s,[]⟩
theorem e0e:a0l Tryz.prog gl 203 d5q:=VV mixed a2n [] [(3,[(5,dI),(0,Sp.dat true lU),(4,Sp.dat false (Kd.int IntKind.u64))])] P.b8b cN Tryz.func203 S.d4w
def e5i:Ct:=⟨[PK.ro lU,PK.ro lU],false,[oR lU],S.a6b,[]⟩
theorem d2q:a0l Tryz.prog gl 187 e5i:=VV mixed a2n [] [(5,[(7,Sp.dat false (Kd.int IntKind.u64)),(5,Sp.dat false (Kd.int IntKind.u64))]),(1,[(1,Sp.dat false lU),(0,Sp.dat false lU)])] P.d1m (a0b c0g (a0b e0e (a0b d2p cN))) Tryz.func187 S.e4c
def e9p:Ct:=⟨[PK.ro Kd.bool,PK.ro lU,PK.ro lU],false,[(true,[RC.ro KR])],S.a5t,[]⟩
theorem d7g:a0l Tryz.prog gl 169 e9p:=VV mixed a2n [] [] P.d9k (a0b c0g (a0b d2p (a0b d2q cN))) Tryz.func169 S.e8t
def e0f:Ct:=⟨[PK.bo KR],false,[oR aI],S.a0r,[]⟩
theorem a5l:a0l Tryz.prog gl 79 e0f:=VV mixed a2n [] [] P.c6m cN Tryz.func79 S.d9l
def e5j:Ct:=⟨[pR,pR],false,[(true,[RC.ro KR])],S.a1c,[]⟩
theorem b1e:a0l Tryz.prog gl 119 e5j:=VV mixed a2n [] [] P.d2w (a0b b8f (a0b e9n (a0b d2n (a0b b8g (a0b d7g (a0b a5l cN)))))) Tryz.func119 S.e5x
def d5r:Ct:=⟨[pR],false,[(true,[RC.ro KR])],S.b1i,[]⟩
theorem e0g:a0l Tryz.prog gl 176 d5r:=VV mixed a2n [] [] P.c2x cN Tryz.func176 S.d5v
def e5k:Ct:=⟨[pR,pR],false,[(true,[RC.ro KR])],S.b4o,[]⟩
theorem e9q:a0l Tryz.prog gl 121 e5k:=VV mixed a2n [] [] P.e5y (a0b e0g (a0b b1e cN)) Tryz.func121 S.e5z
def e5l:Ct:=⟨[pR,pR],false,[(true,[RC.ro KR])],S.a3s,[]⟩
theorem c2r:a0l Tryz.prog gl 118 e5l:=VV mixed a2n [] [] P.d2x (a0b b8g (a0b d7g (a0b b2d (a0b a5l cN)))) Tryz.func118 S.e6a
def e0h:Ct:=⟨[pR,pR],false,[(true,[RC.ro KR])],S.a3a,[]⟩
theorem c0h:a0l Tryz.prog gl 141 e0h:=VV mixed a2n [] [] P.d7k (a0b c2r cN) Tryz.func141 S.e0l
def e0i:Ct:=⟨[PK.ro lR,PK.ro lR],false,[(true,[RC.ro KR])],S.b3z,[]⟩
theorem e5m:a0l Tryz.prog gl 132 e0i:=VV mixed a2n [] [(3,[(11,dI),(10,dI),(0,Sp.dat false lR),(1,Sp.dat false lR),(5,Sp.var (40) KR),(4,Sp.var (32) KR)])] P.c6v (a0b b2d (a0b b1e (a0b e9q (a0b c0h cN)))) Tryz.func132 S.e0m
def c4s:Ct:=⟨[PK.ro (Kd.int IntKind.u64),PK.ro (Kd.int IntKind.u64)],true,[oR (Kd.int IntKind.u64),oR (Kd.int IntKind.u64)],S.b4q,[]⟩
theorem c6t:a0l Tryz.prog gl 190 c4s:=VV mixed a2n [] [] P.b4p cN Tryz.func190 S.c4u
def c8s:Ct:=⟨[PK.ro (Kd.int IntKind.u64),PK.ro (Kd.int IntKind.u64)],true,[oR (Kd.int IntKind.u64),oR (Kd.int IntKind.u64)],S.a3e,[]⟩
theorem c0i:a0l Tryz.prog gl 146 c8s:=VV mixed a2n [] [] P.b8j (a0b c6t cN) Tryz.func146 S.c8v
def b2v:Ct:=⟨[PK.ro lR,pI],false,[(false,[RC.own KR])],S.a0o,[]⟩
theorem a6m:a0l Tryz.prog gl 125 b2v:=VV mixed a2n [] [(8,[(8,dI),(7,Sp.own (240) true KR)])] PP.a6w (a0b c0i cN) Tryz.func125 (fun x r h=>(S.b2x x r h).imp fun k hk=>(PP.b2g k x).trans hk)
def e5n:Ct:=⟨[PK.ro mR,PK.ro lR],false,[oR lR],S.b6q,[]⟩
theorem e9r:a0l Tryz.prog gl 160 e5n:=VV mixed a2n [] [(7,[(30,dI),(29,dI),(28,Sp.dat false lR),(5,Sp.own (112) true KR),(7,Sp.var (56) KR),(17,dI),(16,dI),(15,Sp.dat false lR),(0,Sp.dat false mR)]),(3,[(17,dI),(16,dI),(15,Sp.dat false lR),(0,Sp.dat false mR),(5,Sp.own (112) true KR)])] P.d2y (a0b a6m (a0b b2d (a0b a5l (a0b b1e (a0b c2r cN))))) Tryz.func160 S.e6c
def f4s:Ct:=⟨[PK.ro mR,PK.ro lR,pI],false,[oR lR],S.c6w,[]⟩
theorem f8t:a0l Tryz.prog gl 109 f4s:=VV mixed a2n [] [(2,[(8,dI),(7,dI),(0,Sp.dat false mR),(1,Sp.dat false lR)])] P.f0d (a0b e9r cN) Tryz.func109 S.f4y
def e5o:Ct:=⟨[PK.bo KR,PK.bo KR],false,[oR aI],S.c4w,[]⟩
theorem e9s:a0l Tryz.prog gl 153 e5o:=VV mixed a2n [] [] P.c4v (a0b b8f (a0b b8g (a0b a5l cN))) Tryz.func153 S.e6d
def d5s:Ct:=⟨[PK.bo KR],false,rB,S.a8r,[]⟩
theorem e0j:a0l Tryz.prog gl 182 d5s:=VV mixed a2n [] [] P.c2y (a0b b2d (a0b e9s cN)) Tryz.func182 S.d5w
def d5t:Ct:=⟨[PK.ro Kd.str,PK.ro Kd.str],true,[oR Kd.str,oR Kd.str,oR Kd.bool],S.b4r,[]⟩
theorem e0k (hM:InM gl):a0l Tryz.prog gl 184 d5t:=by
 refine b4d (enters_of Tryz.func184 (by kernel_rfl) (by kernel_rfl)) (fun _ _ _ _ _ _=>trivial) (fun w M0 W0 us x γ hl hW ha r hr=> ?_);obtain⟨s,b,q⟩:=x;obtain⟨u1,_,rfl,⟨c1,h1,h1'⟩,u2,_,rfl,⟨c2,h2,h2'⟩,rfl⟩:=ha;cases h1';cases h2';subst h1;subst h2;unfold S.b4r at hr;split at hr
 case isFalse=>cases hr
 rename_i hc;cases hr;obtain⟨m,hm⟩:=hM;refine(Tryz.strings_Cut s b m w hc (f6e hl hm)).mono ?_
 rintro e w' ⟨rfl,n,rfl⟩
 exact⟨[_,_,_],rfl,⟨rfl,rfl,rfl,Nat.le_refl _,fun _ _=>rfl⟩,fun M'=>⟨[_],[_,_],rfl,fun _=>rfl,rfl,[_],[_],rfl,fun _=>rfl,rfl,[_],rfl,fun _=>rfl,rfl⟩⟩
def c1n:Ct:=⟨[PK.ro Kd.str,PK.ro Kd.str],true,[oR Kd.str,oR Kd.bool],S.a7i,[]⟩
theorem c2s:a0l Tryz.prog gl 185 c1n:=by
 refine b4d (enters_of Tryz.func185 (by kernel_rfl) (by kernel_rfl)) (fun _ _ _ _ _ _=>trivial) (fun w M0 W0 us x γ hl hW ha r hr=> ?_);obtain⟨s,b,q⟩:=x;obtain⟨u1,_,rfl,⟨c1,h1,h1'⟩,u2,_,rfl,⟨c2,h2,h2'⟩,rfl⟩:=ha;cases h1';cases h2';subst h1;subst h2;cases hr;refine(Tryz.strings_CutPrefix s b w).mono ?_
 rintro e w' ⟨rfl,rfl⟩
 exact⟨[_,_],rfl,Below.refl _ _,fun M'=>⟨[_],[_],rfl,fun _=>rfl,rfl,[_],rfl,fun _=>rfl,rfl⟩⟩
def c1o:Ct:=⟨[PK.ro Kd.str,pI,pI],true,[oR (Kd.int IntKind.u64),oR Kd.er],S.a4a,[]⟩
theorem c2t (hR:InR gl) (hS:InS gl):a0l Tryz.prog gl 202 c1o:=by
 refine b4d (enters_of Tryz.func202 (by kernel_rfl) (by kernel_rfl)) (fun _ _ _ _ _ _=>trivial) (fun w M0 W0 us x γ hl hW ha r hr=> ?_);obtain⟨s,b,z,q⟩:=x;obtain⟨u1,_,rfl,⟨c1,h1,h1'⟩,u2,_,rfl,⟨c2,h2,h2'⟩,u3,_,rfl,⟨c3,h3,h3'⟩,rfl⟩:=ha;cases h1';cases h2';cases h3';subst h1;subst h2;subst h3;unfold S.a4a at hr;split at hr
 case isFalse=>cases hr
 rename_i hc;obtain⟨hb,hz,hs⟩:=hc;dsimp only at hb hz hs hr;subst hb;subst hz;obtain⟨t1,p1,hS⟩:=hS;obtain⟨t2,p2,hR⟩:=hR;have v1:w.var? Tryz.prog "strconv.ErrSyntax" =some #[.iface t1 p1]:=d8h hl hS (by kernel_rfl);have v2:w.var? Tryz.prog "strconv.ErrRange" =some #[.iface t2 p2]:=d8h hl hR (by kernel_rfl);split at hr
 ·rename_i v hv;cases hr;refine(Tryz.strconv_ParseUint_10_at64_ok s (by omega) v hv w).mono ?_
  rintro e w' ⟨rfl,hw⟩
  refine⟨[_,_],rfl,?_,fun M'=>⟨[_],[_],rfl,fun _=>rfl,rfl,[_],rfl,fun _=>rfl,_,rfl,rfl,rfl⟩⟩;rcases hw with rfl|⟨t,rfl⟩
  ·exact Below.refl _ _
  ·exact⟨rfl,rfl,rfl,by rw[Lib.bytesWorld_size];omega,fun k hk=>Lib.bytesWorld_at_old _ _ _ k (by omega)⟩
 ·rename_i hv;cases hr;refine(Tryz.strconv_ParseUint_10_at64_syntax_var s hs hv t1 p1 w v1).mono ?_
  rintro e w' ⟨N,rfl,_,_,hbl⟩
  exact⟨[_,_],rfl,hbl,fun M'=>⟨[_],[_],rfl,fun _=>rfl,rfl,[_],rfl,fun _=>rfl,_,rfl,rfl,_,_,rfl⟩⟩
 ·rename_i hv;cases hr;refine(Tryz.strconv_ParseUint_10_at64_range_var s hs hv t2 p2 w v2).mono ?_
  rintro e w' ⟨N,rfl,_,_,hbl⟩
  exact⟨[_,_],rfl,hbl,fun M'=>⟨[_],[_],rfl,fun _=>rfl,rfl,[_],rfl,fun _=>rfl,_,rfl,rfl,_,_,rfl⟩⟩
def e5p:Ct:=⟨[PK.ro Kd.str],true,[oR lU,oR Kd.bool],S.a9z,[]⟩
theorem e9t (hR:InR gl) (hS:InS gl):a0l Tryz.prog gl 186 e5p:=VV mixed a2n [] [(17,[(59,dI),(58,dI),(9,Sp.dat false (Kd.int IntKind.u64)),(4,Sp.dat false lU),(7,Sp.dat false (Kd.int IntKind.u64)),(0,Sp.dat false Kd.str),(6,dI)]),(10,[(0,Sp.dat false Kd.str),(4,Sp.dat false lU)]),(5,[(30,dI),(29,dI),(0,Sp.dat false Kd.str),(4,Sp.dat false lU)])] P.d2z (a0b (c2t hR hS) (a0b c0g (a0b d2n (a0b b8g cN)))) Tryz.func186 S.e6e
def e5q:Ct:=⟨[PK.ro Kd.str],true,[(true,[RC.ro KR]),oR Kd.bool],S.b6r,[]⟩
theorem e9u (hM:InM gl) (hR:InR gl) (hS:InS gl):a0l Tryz.prog gl 138 e5q:=VV mixed a2n [] [] P.d3a (a0b (e0k hM) (a0b c2s (a0b c0g (a0b b8f (a0b d2q (a0b (e9t hR hS) cN)))))) Tryz.func138 S.e6g
def f8u:Ct:=⟨[PK.bo lT],true,[oR lR,oR Kd.bool],S.e6h,[]⟩
theorem g4m (hM:InM gl) (hR:InR gl) (hS:InS gl):a0l Tryz.prog gl 75 f8u:=VV mixed a2n [] [(5,[(15,dI),(14,dI),(13,Sp.dat true lT),(4,Sp.own (96) true KR)])] P.f9o (a0b (e9u hM hR hS) cN) Tryz.func75 S.f9p
def g4n:Ct:=⟨[PK.ro lR],false,[(true,[RC.ro KR])],S.f4z,[]⟩
theorem v_i_sum:a0l Tryz.prog gl 78 g4n:=VV mixed a2n [] [(3,[(9,dI),(8,dI),(7,Sp.dat false lR),(3,Sp.var (24) KR),(2,Sp.var (16) KR)])] P.i_sum (a0b b2d (a0b b1e cN)) Tryz.func78 S.g4t
def e5r:Ct:=⟨[PK.bo KR],false,rB,S.b4s,[]⟩
theorem c2u:a0l Tryz.prog gl 77 e5r:=VV mixed a2n [] [] P.d3b (a0b a5l cN) Tryz.func77 S.e6i
def b0n:Ct:=⟨[PK.bo lR,PK.fn (77)],false,[oR aI],S.a1q,[]⟩
theorem b1f:a0l Tryz.prog gl 139 b0n:=VV mixed a2n [] [(2,[(8,dI),(7,dI),(1,Sp.fn (77)),(0,Sp.dat true lR)])] P.a3p (a0b c2u cN) Tryz.func139 S.b0p
def a8p:Ct:=⟨[PK.bo lR,PK.fn (77)],false,rB,S.a0t,[]⟩
theorem a9e:a0l Tryz.prog gl 76 a8p:=VV mixed a2n [] [] P.a2x (a0b c2u (a0b b1f cN)) Tryz.func76 S.a8s
def e5s:Ct:=⟨[PK.bo KR],false,rB,S.b4t,[]⟩
theorem d2r:a0l Tryz.prog gl 158 e5s:=VV mixed a2n [] [] P.d3c (a0b a5l cN) Tryz.func158 S.e6j
def a9y:Ct:=⟨[PK.bo lR,PK.fn (158)],false,[oR aI],S.a1i,[]⟩
theorem b0o:a0l Tryz.prog gl 139 a9y:=VV mixed a2n [] [(2,[(8,dI),(7,dI),(1,Sp.fn (158)),(0,Sp.dat true lR)])] P.a3i (a0b d2r cN) Tryz.func139 S.b0a
def a8e:Ct:=⟨[PK.bo lR,PK.fn (158)],false,rB,S.a2w,[]⟩
theorem a8q:a0l Tryz.prog gl 76 a8e:=VV mixed a2n [] [] P.a2v (a0b d2r (a0b b0o cN)) Tryz.func76 S.a8f
def d5u:Ct:=⟨[PK.bo lT],true,[oR lR,oR Kd.bool],S.a5u,[]⟩
theorem c4t (hM:InM gl) (hR:InR gl) (hS:InS gl):a0l Tryz.prog gl 136 d5u:=VV mixed a2n [] [] P.c2z (a0b e0j (a0b (g4m hM hR hS) (a0b v_i_sum (a0b c2u (a0b a9e (a0b a8q cN)))))) Tryz.func136 S.d5x
def e5t:Ct:=⟨[PK.bo (Kd.st mT)],true,[oR mR,oR Kd.bool],S.b6s,[]⟩
theorem e9v (hM:InM gl) (hR:InR gl) (hS:InS gl):a0l Tryz.prog gl 64 e5t:=VV mixed a2n [] [(5,[(23,dI),(22,dI),(21,Sp.dat true mT),(1,Sp.varb (8) mT),(4,Sp.own (152) true lR)])] P.d3d (a0b (c4t hM hR hS) cN) Tryz.func64 S.e6k
def c1p:Ct:=⟨[PK.bo (Kd.st mT),PK.bo lT],true,[oR mR,oR lR,oR Kd.bool],S.a7k,[]⟩
theorem c2v (hM:InM gl) (hR:InR gl) (hS:InS gl):a0l Tryz.prog gl 107 c1p:=VV mixed a2n [] [] P.a7j (a0b (c4t hM hR hS) (a0b (e9v hM hR hS) cN)) Tryz.func107 S.c1q
def f4t:Ct:=⟨[PK.bo (Kd.sl Kd.bool)],false,[(false,[RC.own aI])],S.c6x,[]⟩
theorem f8v:a0l Tryz.prog gl 83 f4t:=VV mixed a2n [] [(3,[(9,dI),(8,dI),(7,Sp.dat true (Kd.sl Kd.bool)),(3,Sp.own (48) true aI)])] P.f0f cN Tryz.func83 S.f5a
def b2w:Ct:=⟨[PK.ro lI,pI],false,[(false,[RC.own aI])],S.a1k,[]⟩
theorem b3m:a0l Tryz.prog gl 87 b2w:=VV mixed a2n [] [(8,[(8,dI),(7,Sp.own (240) true aI)])] PP.a6y (a0b c0i cN) Tryz.func87 (fun x r h=>(S.b2y x r h).imp fun k hk=>(PP.b2i k x).trans hk)
def f4u:Ct:=⟨[PK.bo mR,pI],false,[(false,[RC.own Kd.bool])],S.c6z,[]⟩
theorem f8w:a0l Tryz.prog gl 183 f4u:=VV mixed a2n [] [(7,[(29,dI),(28,dI),(27,Sp.dat true lR),(5,Sp.own (88) true Kd.bool),(6,Sp.own (128) true aI),(0,Sp.dat true mR)]),(4,[(6,Sp.own (128) true aI),(0,Sp.dat true mR),(5,Sp.own (88) true Kd.bool)])] P.f0g (a0b a5l cN) Tryz.func183 S.f5b
def e5u:Ct:=⟨[PK.bo mR],false,[oR (Kd.sl (Kd.sl Kd.bool))],S.b6u,[]⟩
theorem e9w:a0l Tryz.prog gl 137 e5u:=VV mixed a2n [] [(3,[(8,dI),(7,dI),(3,Sp.own (40) true (Kd.sl Kd.bool)),(0,Sp.dat true mR)])] P.d3e (a0b f8w cN) Tryz.func137 S.e6l
def e5v:Ct:=⟨[PK.bo mR],true,[(false,[RC.own aI]),oR (Kd.sl Kd.bool)],S.b6v,[]⟩
theorem e9x:a0l Tryz.prog gl 65 e5v:=VV mixed a2n [] [(9,[(29,dI),(28,dI),(4,Sp.dat false (Kd.sl (Kd.sl Kd.bool))),(7,dI),(5,Sp.own (120) true aI),(6,Sp.own (128) true Kd.bool),(8,Sp.dat false Kd.bool),(19,dI),(18,dI),(0,Sp.dat true mR)]),(4,[(19,dI),(18,dI),(5,Sp.own (120) true aI),(0,Sp.dat true mR),(4,Sp.dat false (Kd.sl (Kd.sl Kd.bool))),(6,Sp.own (128) true Kd.bool)])] P.d3f (a0b b3m (a0b e9w cN)) Tryz.func65 S.e6n
def e9y:Ct:=⟨[PK.ro lR,pR],false,[oR lR],S.b8l,[]⟩
theorem f4v:a0l Tryz.prog gl 81 e9y:=VV mixed a2n [] [(3,[(11,dI),(10,dI),(9,Sp.dat false lR),(5,Sp.own (64) true KR),(3,Sp.var (24) KR)])] P.e0o (a0b c0h cN) Tryz.func81 S.f0h
def f8x:Ct:=⟨[PK.mu KR],false,[(true,[RC.ro KR])],S.d3h,[]⟩
theorem g4o:a0l Tryz.prog gl 78 f8x:=VV mixed a2n [] [(3,[(9,dI),(8,dI),(7,Sp.own (0) false KR),(3,Sp.var (24) KR),(2,Sp.var (16) KR)])] P.f9v (a0b b2d (a0b b1e cN)) Tryz.func78 S.f9w
def e9z:Ct:=⟨[PK.mr KR],false,[oR lR],S.c1e,[]⟩
theorem f4w:a0l Tryz.prog gl 181 e9z:=VV mixed a2n [] [(22,[(98,dI),(97,dI),(9,Sp.var (72) KR),(7,Sp.own (712) true KR),(0,Sp.rows (0) false KR),(8,dI)]),(18,[(8,dI),(0,Sp.rows (0) false KR),(7,Sp.own (712) true KR)]),(11,[(54,dI),(53,dI),(0,Sp.rows (0) false KR),(5,dI),(3,dI),(26,dI),(25,dI),(4,Sp.var (32) KR)]),(6,[(26,dI),(25,dI),(0,Sp.rows (0) false KR),(3,dI),(4,Sp.var (32) KR)]),(2,[(3,dI),(0,Sp.rows (0) false KR)])] P.e0p (a0b b2d (a0b a5l (a0b b1e (a0b c2r (a0b c0h (a0b f4v (a0b g4o cN))))))) Tryz.func181 S.f0i
def f8y:Ct:=⟨[PK.ro mR],true,[oR lR,oR Kd.bool],S.d7l,[]⟩
theorem g4p:a0l Tryz.prog gl 130 f8y:=VV mixed a2n [1000047,1000074] [(26,[(85,dI),(84,dI),(83,Sp.dat false lR),(16,Sp.own (648) true KR),(7,dL)]),(18,[(57,dI),(56,dI),(55,dL),(13,Sp.own (432) true KR),(0,Sp.dat false mR),(12,dI),(10,Sp.rows (376) true KR),(50,dI),(49,dI),(48,dL),(7,dL)]),(14,[(50,dI),(49,dI),(48,dL),(7,dL),(0,Sp.dat false mR),(10,Sp.rows (376) true KR)]),(7,[(32,dI),(31,dI),(30,dL),(6,dL),(7,Sp.own (232) true aI),(0,Sp.dat false mR)])] P.f9y (a0b a6m (a0b b2d (a0b f8v (a0b e9x (a0b f4w cN))))) Tryz.func130 S.f9z
def c8t:Ct:=⟨[PK.bo (Kd.st mT),PK.bo lT,pI],true,[oR Kd.str,oR Kd.bool],S.a7l,[]⟩
theorem d2s (hM:InM gl) (hP:InP gl) (hR:InR gl) (hS:InS gl):a0l Tryz.prog gl 59 c8t:=VV mixed a2n [] [] P.b3o (a0b v_i_in (a0b (g4j hP) (a0b e5m (a0b f8t (a0b (c2v hM hR hS) (a0b g4p cN)))))) Tryz.func59 S.c8w
def b8h:Ct:=⟨[PK.bo (Kd.st mT),PK.bo lT,pI],false,rB,S.a7s,[]⟩
theorem v_l_FnExactFarFromRest (hM:InM gl) (hP:InP gl) (hR:InR gl) (hS:InS gl):a0l Tryz.prog gl 14 b8h:=VV mixed a2n [] [] P.a3t (a0b c4m (a0b e8v (a0b c4n (a0b b6p (a0b e8w (a0b d1v (a0b d2l (a0b (d2s hM hP hR hS) cN)))))))) Tryz.func14 S.b8m
end Go.Cm.LnFarFromRest
end
