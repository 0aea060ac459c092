import Derived.Test.YtdpljomfkoojnaaGreatDoorPlReverseChain
import Derived.Test.YtdpljomfkoojnaaGreatDoorChecked
import Derived.Test.YtdpljomfkoojnaaGreatDoorL4zShelf
import Derived.WalkKit
import Derived.BigCall
import Derived.BigGuard
import Derived.Lib.ItoaMem
import Derived.Lib.AppendIntMem
set_option linter.unusedVariables false
set_option maxRecDepth 100000
noncomputable section
namespace Go.Cm.LnReverseChain
open Go.RowKit Go.Proofs
abbrev oR (k:Kd):RK:=(false,[RC.ro k])
abbrev KR:Kd:=Kd.st (Kd.pair Kd.bool (Kd.pair (Kd.sl (Kd.int .u32)) (Kd.sl (Kd.int .u32))))
abbrev KS:Kd:=Kd.st (Kd.pair Kd.bool (Kd.pair (Kd.sl (Kd.int .i64)) (Kd.sl (Kd.int .i64))))
abbrev aI:=Kd.int .i64
abbrev aU:=Kd.int .u32
abbrev lI:=Kd.sl aI
abbrev lU:=Kd.sl aU
abbrev lR:=Kd.sl KR
abbrev lS:=Kd.sl KS
abbrev mR:=Kd.sl lR
abbrev mS:=Kd.sl lS
abbrev lT:=Kd.sl Kd.str
abbrev mT:=Kd.sl lT
abbrev dI:=Sp.dat false aI
abbrev dL:=Sp.dat false lI
abbrev pR:=PK.ro KR
abbrev pS:=PK.ro KS
abbrev pI:=PK.ro aI
abbrev rB:List RK:=[(false,[.ro .bool])]
variable {gl:List (Nat×List Value)}
def td:List (Nat×Td):=[(2,⟨Kd.int IntKind.i64,8,false,0,[]⟩),(3,⟨Kd.int IntKind.i64,8,false,0,[]⟩),(4,⟨Kd.bool,1,false,0,[]⟩),(5,⟨Kd.int IntKind.u8,1,false,0,[]⟩),(9,⟨Kd.str,16,false,0,[]⟩),(20,⟨Kd.er,16,false,0,[]⟩),(22,⟨Kd.sl lT,24,false,36,[]⟩),(24,⟨Kd.st mT,24,true,0,[(0,22)]⟩),(26,⟨Kd.sl aI,24,false,2,[]⟩),(29,⟨Kd.st mT,24,true,0,[(0,22)]⟩),(36,⟨Kd.sl Kd.str,24,false,9,[]⟩),(69,⟨Kd.sl lS,24,false,86,[]⟩),(71,⟨Kd.st mS,24,true,0,[(0,69)]⟩),(74,⟨Kd.pt (Kd.st mT),8,false,0,[]⟩),(77,⟨Kd.pt (Kd.st mS),8,false,0,[]⟩),(79,⟨Kd.sl lR,24,false,97,[]⟩),(82,⟨Kd.sl Kd.bool,24,false,4,[]⟩),(86,⟨Kd.sl KS,24,false,92,[]⟩),(92,⟨KS,56,true,0,[(0,4),(1,26),(2,26)]⟩),(97,⟨Kd.sl KR,24,false,104,[]⟩),(102,⟨Kd.sl aU,24,false,209,[]⟩),(104,⟨KR,56,true,0,[(0,4),(1,102),(2,102)]⟩),(166,⟨Kd.sl (Kd.sl Kd.bool),24,false,82,[]⟩),(170,⟨Kd.sl (Kd.int IntKind.u8),24,false,5,[]⟩),(172,⟨Kd.int IntKind.u64,8,false,0,[]⟩),(194,⟨Kd.int IntKind.u64,8,false,0,[]⟩),(199,⟨Kd.sl aI,24,false,3,[]⟩),(209,⟨Kd.int IntKind.u32,4,false,0,[]⟩),(224,⟨Kd.er,16,false,0,[]⟩)]
theorem a2j:a6j ⟨Tryz.prog,td,[],[],[]⟩ Tryz.prog:=a2m (tdN Tryz.underlying2) (a2m (tdN Tryz.underlying3) (a2m (tdN Tryz.underlying4) (a2m (tdN Tryz.underlying5) (a2m (tdN Tryz.underlying9) (a2m (tdN ⟨_,Tryz.underlying20⟩) (a2m (tdN Tryz.underlying22) (a2m (tdN ⟨_,Tryz.underlying24,by kernel_rfl,by kernel_rfl⟩) (a2m (tdN Tryz.underlying26) (a2m (tdN ⟨_,Tryz.underlying29,by kernel_rfl,by kernel_rfl⟩) (a2m (tdN Tryz.underlying36) (a2m (tdN Tryz.underlying69) (a2m (tdN ⟨_,Tryz.underlying71,by kernel_rfl,by kernel_rfl⟩) (a2m (.of (by kernel_rfl) (.inl rfl) rfl ⟨_,Tryz.underlying74⟩) (a2m (.of (by kernel_rfl) (.inl rfl) rfl ⟨_,Tryz.underlying77⟩) (a2m (tdN Tryz.underlying79) (a2m (tdN Tryz.underlying82) (a2m (tdN Tryz.underlying86) (a2m (tdN ⟨_,Tryz.underlying92,by kernel_rfl,by kernel_rfl⟩) (a2m (tdN Tryz.underlying97) (a2m (tdN Tryz.underlying102) (a2m (tdN ⟨_,Tryz.underlying104,by kernel_rfl,by kernel_rfl⟩) (a2m (tdN Tryz.underlying166) (a2m (tdN Tryz.underlying170) (a2m (tdN Tryz.underlying172) (a2m (tdN Tryz.underlying194) (a2m (tdN Tryz.underlying199) (a2m (tdN Tryz.underlying209) (a2m (tdN ⟨_,Tryz.underlying224⟩) (h2p _ _ _ _)))))))))))))))))))))))))))))
theorem mixed:Tryz.prog.follows .mixedOrders=true:=by kernel_rfl
def InP (gl:List (Nat×List Value)):Prop:=(3,Go.Lib.pow10Tab.map fun z=>Value.int .u64 z)∈gl
def InM (gl:List (Nat×List Value)):Prop:=∃m,(0,[Value.int .i64 m])∈gl
def InS (gl:List (Nat×List Value)):Prop:=∃t p,(1,[Value.iface t p])∈gl
def InR (gl:List (Nat×List Value)):Prop:=∃t p,(2,[Value.iface t p])∈gl
def d5o:Ct:=⟨[PK.bo lT,pI],false,[oR aI],S.b0x,[]⟩
theorem e0g:a0l Tryz.prog gl 24 d5o:=VV mixed a2j [] [(5,[(5,dI),(0,Sp.dat true lT),(1,dI)])] P.c2b cN Tryz.func24 S.d4w
def d2h:Ct:=⟨[PK.bo mT,pI],false,[oR aI],S.a8r,[]⟩
theorem d5p:a0l Tryz.prog gl 60 d2h:=VV mixed a2j [] [(5,[(5,dI),(0,Sp.dat true mT),(1,dI)])] P.b9e (a0b e0g cN) Tryz.func60 S.d0m
def e4z:Ct:=⟨[PK.bo (Kd.st mT),pI],false,[oR aI],S.b9f,[]⟩
theorem f0a:a0l Tryz.prog gl 15 e4z:=VV mixed a2j [] [] P.c3j (a0b d5p cN) Tryz.func15 S.e3c
def d5q:Ct:=⟨[PK.bo lT,PK.bo lT],false,rB,S.a5g,[]⟩
theorem c4p:a0l Tryz.prog gl 28 d5q:=VV mixed a2j [] [(4,[(5,dI),(0,Sp.dat true lT),(1,Sp.dat true lT)])] P.c2c cN Tryz.func28 S.d4x
def d2i:Ct:=⟨[PK.bo mT,PK.bo mT],false,rB,S.a6e,[]⟩
theorem c1v:a0l Tryz.prog gl 104 d2i:=VV mixed a2j [] [(4,[(5,dI),(0,Sp.dat true mT),(1,Sp.dat true mT)])] P.b9g (a0b c4p cN) Tryz.func104 S.d0n
def e5a:Ct:=⟨[PK.bo (Kd.st mT),PK.bo (Kd.st mT)],false,rB,S.b4o,[]⟩
theorem f0b:a0l Tryz.prog gl 42 e5a:=VV mixed a2j [] [] P.c3k (a0b c1v cN) Tryz.func42 S.e3e
def d2j:Ct:=⟨[pI],false,[oR aI],S.a1y,[]⟩
theorem b2c:a0l Tryz.prog gl 74 d2j:=VV mixed a2j [] [] P.a8s cN Tryz.func74 S.d0o
def c4q:Ct:=⟨[PK.bo (Kd.sv Kd.str),PK.bo (Kd.sv Kd.str)],false,rB,S.a6f,[]⟩
theorem c6x:a0l Tryz.prog gl 29 c4q:=VV mixed a2j [] [] P.a9k (a0b b2c (a0b c4p cN)) Tryz.func29 S.c3l
def c2r:Ct:=⟨[PK.bo (Kd.sv (Kd.sv Kd.str)),PK.bo (Kd.sv (Kd.sv Kd.str))],false,rB,S.a4h,[]⟩
theorem c4r:a0l Tryz.prog gl 66 c2r:=VV mixed a2j [] [(5,[(6,dI),(1,Sp.dat true (Kd.sv (Kd.sv Kd.str))),(0,Sp.dat true (Kd.sv (Kd.sv Kd.str))),(5,dI)])] P.b2y (a0b b2c (a0b c6x (a0b c1v cN))) Tryz.func66 S.c2d
def c8w:Ct:=⟨[PK.bo (Kd.st (Kd.sv (Kd.sv Kd.str))),PK.bo (Kd.st (Kd.sv (Kd.sv Kd.str)))],false,rB,S.a9l,[]⟩
theorem d2k:a0l Tryz.prog gl 20 c8w:=VV mixed a2j [] [] P.b3k (a0b c4r cN) Tryz.func20 S.c8l
def e0h:Ct:=⟨[pI],false,[oR Kd.str],S.a6x,[]⟩
theorem c8f:a0l Tryz.prog gl 82 e0h:=VV mixed a2j [] [(4,[(0,dI),(3,Sp.dat false Kd.str)])] P.c0t cN Tryz.func82 S.d8r
def c8x:Ct:=⟨[PK.mu Kd.str,pI],false,[oR aI],S.a6y,[]⟩
theorem d2l:a0l Tryz.prog gl 30 c8x:=VV mixed a2j [] [(2,[(5,dI),(0,Sp.own (0) false Kd.str),(1,dI)])] P.b7i (a0b c8f cN) Tryz.func30 S.c8m
def c6y:Ct:=⟨[PK.mr Kd.str,pI],false,[oR aI],S.a5u,[]⟩
theorem c8y:a0l Tryz.prog gl 67 c6y:=VV mixed a2j [] [(2,[(5,dI),(0,Sp.rows (0) false Kd.str),(1,dI)])] P.b6g (a0b d2l cN) Tryz.func67 S.c5o
def d5r:Ct:=⟨[PK.mr Kd.str,pI],false,[oR aI],S.a5i,[1,0]⟩
theorem e0i:a0l Tryz.prog gl 21 d5r:=VV mixed a2j [] [] P.b4p (a0b c8y cN) Tryz.func21 S.d4y
def d2m:Ct:=⟨[PK.bo lT,PK.ro Kd.bool],false,[(false,[RC.ov Kd.str])],S.a6h,[]⟩
theorem d5s:a0l Tryz.prog gl 26 d2m:=VV mixed a2j [] [(9,[(7,dI),(5,Sp.own (160) true Kd.str),(0,Sp.dat true lT)]),(5,[(6,dI),(0,Sp.dat true lT),(5,Sp.own (160) true Kd.str)])] P.b9h (a0b b2c cN) Tryz.func26 S.d0q
def c8z:Ct:=⟨[PK.bo mT,PK.ro Kd.bool],false,[(false,[RC.rows Kd.str])],S.a9m,[]⟩
theorem d2n:a0l Tryz.prog gl 63 c8z:=VV mixed a2j [1000020] [(9,[(7,dI),(5,Sp.rows (160) true Kd.str),(0,Sp.dat true mT)]),(5,[(6,dI),(0,Sp.dat true mT),(5,Sp.rows (160) true Kd.str),(1,Sp.dat false Kd.bool)])] P.b7j (a0b b2c (a0b d5s cN)) Tryz.func63 S.c8n
def e0j:Ct:=⟨[PK.bo (Kd.st mT),PK.ro Kd.bool],false,[(true,[RC.rows Kd.str])],S.a8t,[]⟩
theorem e5b:a0l Tryz.prog gl 17 e0j:=VV mixed a2j [] [] P.c0u (a0b d2n cN) Tryz.func17 S.d8u
def c9a:Ct:=⟨[PK.bo lT,pI],false,[oR aI],S.a7a,[]⟩
theorem d2o:a0l Tryz.prog gl 31 c9a:=VV mixed a2j [] [(2,[(5,dI),(0,Sp.dat true lT),(1,dI)])] P.b7k (a0b c8f cN) Tryz.func31 S.c8o
def c6z:Ct:=⟨[PK.bo mT,pI],false,[oR aI],S.a7n,[]⟩
theorem c9b:a0l Tryz.prog gl 105 c6z:=VV mixed a2j [] [(2,[(5,dI),(0,Sp.dat true mT),(1,dI)])] P.b6h (a0b d2o cN) Tryz.func105 S.c5p
def d5t:Ct:=⟨[PK.bo (Kd.st mT),pI],false,[oR aI],S.b0y,[]⟩
theorem e0k:a0l Tryz.prog gl 45 d5t:=VV mixed a2j [] [] P.b7l (a0b c9b cN) Tryz.func45 S.d5b
def f0c:Ct:=⟨[PK.ro Kd.str,PK.ro (Kd.int IntKind.u8)],false,[(false,[RC.own Kd.str])],S.a8c,[]⟩
theorem f5q:a0l Tryz.prog gl 161 f0c:=VV mixed a2j [] [(4,[(7,dI),(0,Sp.dat false Kd.str),(1,Sp.dat false (Kd.int IntKind.u8)),(5,Sp.own (64) true Kd.str),(6,dI)])] P.d8v cN Tryz.func161 S.e8r
def f0d:Ct:=⟨[PK.bo lI,PK.bo lI],false,[oR aI],S.a0o,[]⟩
theorem b4i:a0l Tryz.prog gl 147 f0d:=VV mixed a2j [] [(6,[(5,dI),(0,Sp.dat true lI),(1,Sp.dat true lI)])] P.d8w cN Tryz.func147 S.e8s
def e5c:Ct:=⟨[PK.ro lI],false,[oR lI],S.a3x,[]⟩
theorem b5d:a0l Tryz.prog gl 191 e5c:=VV mixed a2j [] [(1,[(0,dL)])] P.e3g cN Tryz.func191 S.e3h
def f0e:Ct:=⟨[pI],false,[oR lI],S.a7c,[]⟩
theorem d7s:a0l Tryz.prog gl 194 f0e:=VV mixed a2j [] [(2,[(0,dI),(3,Sp.own (32) true aI)])] P.d8x cN Tryz.func194 S.e8u
def e0l:Ct:=⟨[PK.bo lI,pI],false,[oR aI],S.a1s,[]⟩
theorem c0c:a0l Tryz.prog gl 193 e0l:=VV mixed a2j [] [] P.b4e cN Tryz.func193 S.d8y
def e0m:Ct:=⟨[PK.bo lI],true,[oR aI,oR Kd.bool],S.a7d,[]⟩
theorem e5d:a0l Tryz.prog gl 209 e0m:=VV mixed a2j [] [] P.c5q (a0b c0c cN) Tryz.func209 S.d8z
def c9c:Ct:=⟨[PK.bo lI,pI],false,[(false,[RC.own aI])],S.a2a,[]⟩
theorem d2p:a0l Tryz.prog gl 211 c9c:=VV mixed a2j [] [(4,[(16,dI),(15,dI),(14,Sp.dat true lI),(1,dI),(6,dI),(5,Sp.own (104) true aI)])] P.b7p cN Tryz.func211 S.c8p
def c9d:Ct:=⟨[PK.bo lI,pI],true,[oR lI,oR aI],S.a2u,[]⟩
theorem d2q:a0l Tryz.prog gl 210 c9d:=VV mixed a2j [] [(4,[(8,dI),(7,dI),(0,Sp.dat true lI),(6,Sp.own (96) true aI),(1,dI)])] P.b7q (a0b b5d cN) Tryz.func210 S.c8q
def d2r:Ct:=⟨[PK.mu aI,PK.bo lI,pI,pI],false,rB,S.a5c,[]⟩
theorem d5u:a0l Tryz.prog gl 212 d2r:=VV mixed a2j [] [(3,[(15,dI),(14,dI),(13,Sp.dat true lI),(0,Sp.own (0) false aI),(2,dI),(3,dI),(9,dI),(1,Sp.dat true lI)])] P.b5p cN Tryz.func212 S.d0s
def d2s:Ct:=⟨[PK.mu aI,PK.bo lI,pI],true,[],S.a5d,[]⟩
theorem d5v:a0l Tryz.prog gl 213 d2s:=VV mixed a2j [] [(2,[(12,dI),(11,dI),(10,Sp.dat true lI),(0,Sp.own (0) false aI),(2,dI),(6,dI),(1,Sp.dat true lI)])] P.b5q cN Tryz.func213 S.d0t
def d5w:Ct:=⟨[PK.bo lI,PK.bo lI],true,[oR lI,oR lI],S.a4p,[]⟩
theorem c4s:a0l Tryz.prog gl 192 d5w:=VV mixed a2j [] [(21,[(19,dI),(14,dL),(15,dI),(20,dI),(13,Sp.own (624) true aI),(17,dI),(16,Sp.own (744) true aI),(12,dI)]),(17,[(17,dI),(13,Sp.own (624) true aI),(15,dI),(14,dL),(16,Sp.own (744) true aI),(12,dI)])] P.c2e (a0b b5d (a0b d7s (a0b b4i (a0b e5d (a0b d2p (a0b d2q (a0b d5u (a0b d5v cN)))))))) Tryz.func192 S.d5c
def f0f:Ct:=⟨[PK.ro lI,PK.ro lI],false,[oR lI],S.a3g,[]⟩
theorem d7t:a0l Tryz.prog gl 164 f0f:=VV mixed a2j [] [(1,[(1,dL),(0,dL)])] P.d9a (a0b c4s cN) Tryz.func164 S.e8v
def d2t:Ct:=⟨[PK.ro Kd.str],false,[oR lI],S.a0s,[]⟩
theorem d5x:a0l Tryz.prog gl 163 d2t:=VV mixed a2j [] [(10,[(7,dI),(4,dI),(6,dI),(0,Sp.dat false Kd.str),(3,Sp.own (64) true aI)]),(3,[(4,dI),(0,Sp.dat false Kd.str),(3,Sp.own (64) true aI)])] P.b9i (a0b b5d cN) Tryz.func163 S.d0u
def d5y:Ct:=⟨[PK.ro Kd.str],false,rB,S.a0x,[]⟩
theorem e0n:a0l Tryz.prog gl 162 d5y:=VV mixed a2j [] [(2,[(3,dI),(0,Sp.dat false Kd.str)])] P.c2f cN Tryz.func162 S.d5d
def e0o:Ct:=⟨[PK.ro Kd.str],true,[(true,[RC.ro KS]),oR Kd.bool],S.b4j,[]⟩
theorem e5e:a0l Tryz.prog gl 110 e0o:=VV mixed a2j [] [] P.c7k (a0b f5q (a0b b4i (a0b d7t (a0b d5x (a0b e0n cN))))) Tryz.func110 S.e1q
def e5f:Ct:=⟨[PK.bo lT],true,[oR lS,oR Kd.bool],S.b7d,[]⟩
theorem f0g:a0l Tryz.prog gl 68 e5f:=VV mixed a2j [] [(5,[(14,dI),(13,dI),(0,Sp.dat true lT),(4,Sp.own (88) true KS)])] P.d3y (a0b e5e cN) Tryz.func68 S.e7f
def f0h:Ct:=⟨[pI],false,[(true,[RC.ro KS])],S.c4z,[]⟩
theorem d7u:a0l Tryz.prog gl 168 f0h:=VV mixed a2j [] [] P.e1r (a0b d7s cN) Tryz.func168 S.f1k
def f0i:Ct:=⟨[],false,[(true,[RC.ro KS])],S.b3x,[]⟩
theorem d7v:a0l Tryz.prog gl 114 f0i:=VV mixed a2j [] [] P.e1s (a0b d7u cN) Tryz.func114 S.f1l
def d5z:Ct:=⟨[PK.bo lI,PK.bo lI],false,[oR lI],S.a1f,[]⟩
theorem b3s:a0l Tryz.prog gl 148 d5z:=VV mixed a2j [] [(7,[(23,dI),(22,dI),(5,Sp.own (120) true aI),(6,dI),(0,Sp.dat true lI),(1,Sp.dat true lI),(7,dI),(18,dI),(17,dI)]),(3,[(18,dI),(17,dI),(1,Sp.dat true lI),(5,Sp.own (120) true aI),(0,Sp.dat true lI)])] P.c3b (a0b b5d cN) Tryz.func148 S.d6q
def e0p:Ct:=⟨[PK.bo KS,PK.bo KS],false,rB,S.b1q,[]⟩
theorem e5g:a0l Tryz.prog gl 90 e0p:=VV mixed a2j [] [] P.c7l (a0b b4i (a0b b3s cN)) Tryz.func90 S.e1t
def e5h:Ct:=⟨[],false,[(true,[RC.ro KS])],S.b7e,[]⟩
theorem d2u:a0l Tryz.prog gl 123 e5h:=VV mixed a2j [] [] P.d3z (a0b d7u cN) Tryz.func123 S.e7g
def d6a:Ct:=⟨[PK.bo lI,PK.bo lI],false,[oR lI],S.b1r,[]⟩
theorem e0q:a0l Tryz.prog gl 156 d6a:=VV mixed a2j [] [(4,[(7,dI),(0,Sp.dat true lI),(1,Sp.dat true lI),(6,dI),(5,Sp.own (72) true aI)])] P.c3c (a0b c0c cN) Tryz.func156 S.d6r
def d2v:Ct:=⟨[PK.bo lI,PK.bo lI],false,[oR lI],S.a6s,[]⟩
theorem d6b:a0l Tryz.prog gl 157 d2v:=VV mixed a2j [] [(4,[(12,dI),(11,dI),(0,Sp.dat true lI),(1,Sp.dat true lI),(6,dI),(5,Sp.own (72) true aI)])] P.c0j (a0b b5d (a0b c0c cN)) Tryz.func157 S.d4a
def e5i:Ct:=⟨[PK.ro Kd.bool,PK.ro lI,PK.ro lI],false,[(true,[RC.ro KS])],S.a5t,[]⟩
theorem c2s:a0l Tryz.prog gl 155 e5i:=VV mixed a2j [] [] P.d4b (a0b b4i (a0b c4s (a0b d7t cN))) Tryz.func155 S.e7i
def f0j:Ct:=⟨[PK.bo KS,PK.bo KS],false,[(true,[RC.ro KS])],S.b0f,[]⟩
theorem d7w:a0l Tryz.prog gl 97 f0j:=VV mixed a2j [] [] P.e1u (a0b b4i (a0b b3s (a0b e0q (a0b d6b (a0b c2s cN))))) Tryz.func97 S.f1m
def e0r:Ct:=⟨[PK.bo lS],false,[(true,[RC.ro KS])],S.b4k,[]⟩
theorem e5j:a0l Tryz.prog gl 71 e0r:=VV mixed a2j [] [(3,[(8,dI),(7,dI),(3,Sp.var (24) KS),(0,Sp.dat true lS),(2,Sp.var (16) KS)])] P.c7m (a0b d2u (a0b d7w cN)) Tryz.func71 S.e1v
def c9e:Ct:=⟨[PK.bo lS],false,rB,S.b0g,[]⟩
theorem d2w:a0l Tryz.prog gl 69 c9e:=VV mixed a2j [] [(2,[(6,dI),(5,dI),(0,Sp.dat true lS)])] P.b8s cN Tryz.func69 S.c9n
def d2x:Ct:=⟨[PK.bo lS],false,rB,S.a9d,[]⟩
theorem d6c:a0l Tryz.prog gl 133 d2x:=VV mixed a2j [] [] P.c0k (a0b d7v (a0b e5g (a0b e5j (a0b d2w cN)))) Tryz.func133 S.d4c
def e0s:Ct:=⟨[PK.bo (Kd.pt (Kd.st mT))],true,[(true,[RC.ro (Kd.st mS)]),oR Kd.bool],S.b4l,[]⟩
theorem e5k:a0l Tryz.prog gl 61 e0s:=VV mixed a2j [] [(6,[(27,dI),(26,dI),(0,Sp.dat true (Kd.pt (Kd.st mT))),(4,dI),(2,Sp.var (16) (Kd.st mS)),(5,Sp.vow (40) (512) lS)])] P.c7n (a0b f0g (a0b d6c cN)) Tryz.func61 S.e1w
def f0k:Ct:=⟨[pI],false,[oR Kd.str],S.b8t,[]⟩
theorem f5r:a0l Tryz.prog gl 217 f0k:=VV mixed a2j [] [(3,[(3,Sp.dat false (Kd.sl (Kd.int IntKind.u8))),(4,dI),(0,dI)])] P.e1x cN Tryz.func217 S.f1n
def d2y:Ct:=⟨[PK.bo lI],false,[oR Kd.str],S.a3s,[]⟩
theorem c1w:a0l Tryz.prog gl 199 d2y:=VV mixed a2j [] [(5,[(4,dI),(0,Sp.dat true lI),(3,Sp.dat false Kd.str)])] P.c0l (a0b f5r cN) Tryz.func199 S.d4d
def e5l:Ct:=⟨[PK.bo KS],false,rB,S.c5b,[]⟩
theorem f0l:a0l Tryz.prog gl 179 e5l:=VV mixed a2j [] [] P.c5a (a0b c1w cN) Tryz.func179 S.e7l
def e5m:Ct:=⟨[PK.bo KS],false,[oR Kd.str],S.c5d,[]⟩
theorem f0m:a0l Tryz.prog gl 180 e5m:=VV mixed a2j [] [] P.c5c (a0b b4i (a0b c1w cN)) Tryz.func180 S.e7m
def e5n:Ct:=⟨[PK.bo KS],true,[oR Kd.str,oR Kd.bool],S.b5i,[]⟩
theorem f0n:a0l Tryz.prog gl 128 e5n:=VV mixed a2j [] [] P.d4e (a0b f0l (a0b f0m cN)) Tryz.func128 S.e7n
def d2z:Ct:=⟨[PK.bo lS],true,[(false,[RC.own Kd.str]),oR Kd.bool],S.a9e,[]⟩
theorem d6d:a0l Tryz.prog gl 72 d2z:=VV mixed a2j [] [(3,[(11,dI),(10,dI),(0,Sp.dat true lS),(4,Sp.own (64) true Kd.str)])] P.c0m (a0b f0n cN) Tryz.func72 S.d4f
def e5o:Ct:=⟨[PK.bo (Kd.pt (Kd.st mS))],true,[(true,[RC.rows Kd.str]),oR Kd.bool],S.b7f,[]⟩
theorem f0o:a0l Tryz.prog gl 115 e5o:=VV mixed a2j [1000034] [(3,[(14,dI),(13,dI),(0,Sp.dat true (Kd.pt (Kd.st mS))),(2,Sp.var (16) (Kd.st mT)),(4,Sp.vrow (32) (280) Kd.str)])] P.d4g (a0b d6d cN) Tryz.func115 S.e7o
def e0t:Ct:=⟨[PK.bo KS,PK.bo KS],false,[(true,[RC.ro KS])],S.a7g,[]⟩
theorem c8g:a0l Tryz.prog gl 112 e0t:=VV mixed a2j [] [] P.c7o (a0b b3s (a0b c2s cN)) Tryz.func112 S.e1y
def e5p:Ct:=⟨[PK.bo KS,PK.bo KS],false,[(true,[RC.ro KS])],S.a7y,[]⟩
theorem d3a:a0l Tryz.prog gl 98 e5p:=VV mixed a2j [] [] P.d4h (a0b b3s (a0b c2s cN)) Tryz.func98 S.e7q
def f0p:Ct:=⟨[PK.bo lI,pI],false,rB,S.b4a,[]⟩
theorem d7x:a0l Tryz.prog gl 135 f0p:=VV mixed a2j [] [(2,[(5,dI),(0,Sp.dat true lI),(1,dI)])] P.e1z cN Tryz.func135 S.f1o
def f0q:Ct:=⟨[PK.ro lI,pI],false,[oR lI],S.c1m,[]⟩
theorem f5s:a0l Tryz.prog gl 145 f0q:=VV mixed a2j [] [(4,[(7,dI),(0,dL),(6,Sp.dat false Kd.bool),(1,dI),(5,Sp.own (64) true aI)])] P.e2a cN Tryz.func145 S.f1p
def e5q:Ct:=⟨[PK.bo KS],false,rB,S.b0j,[]⟩
theorem d3b:a0l Tryz.prog gl 70 e5q:=VV mixed a2j [] [] P.c0n cN Tryz.func70 S.e7r
def e0u:Ct:=⟨[PK.bo (Kd.pt (Kd.st mS)),pI],false,[oR lI],S.b1s,[]⟩
theorem e5r:a0l Tryz.prog gl 134 e0u:=VV mixed a2j [] [(7,[(24,dI),(23,dI),(0,Sp.dat true (Kd.pt (Kd.st mS))),(5,Sp.own (80) true aI),(7,dI),(6,dL)]),(4,[(7,dI),(5,Sp.own (80) true aI),(0,Sp.dat true (Kd.pt (Kd.st mS))),(6,dL)])] P.c7p (a0b d7x (a0b f5s (a0b d3b cN))) Tryz.func134 S.e2b
def d3c:Ct:=⟨[PK.bo (Kd.pt (Kd.st mS))],true,[(false,[RC.own aI]),oR lI],S.a4n,[]⟩
theorem c1x:a0l Tryz.prog gl 62 d3c:=VV mixed a2j [] [(16,[(43,dI),(42,dI),(0,Sp.dat true (Kd.pt (Kd.st mS))),(9,dL),(8,dI),(4,Sp.own (136) true aI),(7,dI),(10,Sp.dat false Kd.bool),(6,Sp.own (216) true aI),(30,dI),(29,dI)]),(10,[(30,dI),(29,dI),(4,Sp.own (136) true aI),(0,Sp.dat true (Kd.pt (Kd.st mS))),(7,dI),(6,Sp.own (216) true aI)]),(3,[(20,dI),(19,dI),(4,Sp.own (136) true aI),(0,Sp.dat true (Kd.pt (Kd.st mS)))])] P.c0o (a0b d7x (a0b e5r cN)) Tryz.func62 S.d4i
def c9f:Ct:=⟨[pS],false,[(true,[RC.ro KS])],S.a7h,[]⟩
theorem d3d:a0l Tryz.prog gl 167 c9f:=VV mixed a2j [] [] P.b8v cN Tryz.func167 S.c9o
def e0v:Ct:=⟨[pS,pS],false,[(true,[RC.ro KS])],S.a7i,[]⟩
theorem c8h:a0l Tryz.prog gl 113 e0v:=VV mixed a2j [] [] P.d8d (a0b d3d (a0b d7w cN)) Tryz.func113 S.e2c
def e5s:Ct:=⟨[PK.mr KS,pI,pI],true,[],S.b7g,[]⟩
theorem f0r:a0l Tryz.prog gl 198 e5s:=VV mixed a2j [] [] P.c5e cN Tryz.func198 S.e7s
def e0w:Ct:=⟨[PK.mr KS],true,[oR lS,oR Kd.bool],S.b4m,[]⟩
theorem e5t:a0l Tryz.prog gl 178 e0w:=VV mixed a2j [] [(22,[(11,dI),(4,dI),(10,Sp.own (832) true KS),(0,Sp.rows (0) false KS)]),(17,[(9,dI),(4,dI),(0,Sp.rows (0) false KS),(7,dI),(8,Sp.var (64) KS),(5,dI)]),(12,[(7,dI),(4,dI),(5,dI),(0,Sp.rows (0) false KS)]),(6,[(6,dI),(4,dI),(0,Sp.rows (0) false KS),(5,dI)]),(3,[(5,dI),(4,dI),(0,Sp.rows (0) false KS)])] P.c7q (a0b d3b (a0b c8h (a0b c8g (a0b d3a (a0b f0r cN))))) Tryz.func178 S.e2d
def e5u:Ct:=⟨[PK.pm (Kd.st mS)],true,[oR lS,oR Kd.bool],S.b7b,[]⟩
theorem f0s:a0l Tryz.prog gl 126 e5u:=VV mixed a2j [1000026,1000074] [(11,[(10,dI),(6,dI),(0,Sp.pm (Kd.st mS)),(8,dI),(9,Sp.own (256) true KS),(7,Sp.rows (208) true KS)]),(7,[(8,dI),(6,dI),(0,Sp.pm (Kd.st mS)),(7,Sp.rows (208) true KS)])] P.d3p (a0b d7v (a0b d2u (a0b c8h (a0b c1x (a0b e5t cN))))) Tryz.func126 S.e6s
def d3e:Ct:=⟨[PK.pm (Kd.st mS)],true,[(true,[RC.ro (Kd.st mS)]),oR Kd.bool],S.a8y,[]⟩
theorem d6e:a0l Tryz.prog gl 89 d3e:=VV mixed a2j [] [(15,[(50,dI),(49,dI),(11,Sp.own (352) true KS),(7,Sp.dat false lS),(0,Sp.pm (Kd.st mS)),(10,dI),(9,Sp.vow (72) (648) lS),(41,dI),(40,dI),(2,Sp.var (16) mS)]),(11,[(41,dI),(40,dI),(0,Sp.pm (Kd.st mS)),(7,Sp.dat false lS),(9,Sp.vow (72) (648) lS),(2,Sp.var (16) mS)]),(3,[(20,dI),(19,dI),(4,dL),(2,Sp.var (16) (Kd.st mS)),(0,Sp.pm (Kd.st mS))])] P.c0h (a0b c8g (a0b d3a (a0b c1x (a0b f0s cN)))) Tryz.func89 S.d3q
def c7a:Ct:=⟨[PK.bo (Kd.st mT)],true,[(true,[RC.rows Kd.str]),oR Kd.bool],S.a7u,[]⟩
theorem c9g:a0l Tryz.prog gl 54 c7a:=VV mixed a2j [] [] P.b2d (a0b e5k (a0b f0o (a0b d6e cN))) Tryz.func54 S.c7g
def d6f:Ct:=⟨[pI],false,[oR (Kd.int IntKind.u64)],S.b5g,[]⟩
theorem e0x:a0l Tryz.prog gl 175 d6f:=VV mixed a2j [] [] P.c2z cN Tryz.func175 S.d6m
def e0y:Ct:=⟨[PK.ro lU],false,[oR lU],S.a3u,[]⟩
theorem a8x:a0l Tryz.prog gl 196 e0y:=VV mixed a2j [] [(1,[(0,Sp.dat false lU)])] P.d8b cN Tryz.func196 S.e1m
def f5t:Ct:=⟨[PK.ro (Kd.int IntKind.u64)],false,[oR lU],S.a3d,[]⟩
theorem c0d:a0l Tryz.prog gl 174 f5t:=VV mixed a2j [] [] P.f1g (a0b a8x cN) Tryz.func174 S.f6e
def f5u:Ct:=⟨[pI],false,[(true,[RC.ro KR])],S.a4q,[]⟩
theorem b5e:a0l Tryz.prog gl 120 f5u:=VV mixed a2j [] [] P.f1h (a0b e0x (a0b c0d cN)) Tryz.func120 S.f6f
def e5v:Ct:=⟨[PK.bo lU,PK.bo lU],false,[oR aI],S.a1k,[]⟩
theorem b8n:a0l Tryz.prog gl 171 e5v:=VV mixed a2j [] [(6,[(5,dI),(0,Sp.dat true lU),(1,Sp.dat true lU)])] P.d3r cN Tryz.func171 S.e6t
def e5w:Ct:=⟨[PK.bo lU,PK.bo lU],false,[oR lU],S.a2s,[]⟩
theorem b8o:a0l Tryz.prog gl 170 e5w:=VV mixed a2j [] [(7,[(26,dI),(25,dI),(24,Sp.dat true lU),(8,Sp.dat false (Kd.int IntKind.u64)),(7,Sp.dat false aU),(5,Sp.own (128) true aU),(6,dI),(1,Sp.dat true lU),(19,dI),(18,dI),(17,Sp.dat true lU)]),(3,[(19,dI),(18,dI),(17,Sp.dat true lU),(1,Sp.dat true lU),(5,Sp.own (128) true aU)])] P.d3s (a0b a8x cN) Tryz.func170 S.e6u
def e0z:Ct:=⟨[PK.bo KR],false,[oR aI],S.a0u,[]⟩
theorem a6p:a0l Tryz.prog gl 79 e0z:=VV mixed a2j [] [] P.c7h cN Tryz.func79 S.e1n
def e5x:Ct:=⟨[PK.bo KR,PK.bo KR],false,[oR aI],S.c4v,[]⟩
theorem f0t:a0l Tryz.prog gl 153 e5x:=VV mixed a2j [] [] P.c4u (a0b b8n (a0b b8o (a0b a6p cN))) Tryz.func153 S.e6v
def d6g:Ct:=⟨[PK.bo KR],false,rB,S.a8o,[]⟩
theorem e1a:a0l Tryz.prog gl 182 d6g:=VV mixed a2j [] [] P.c3a (a0b b5e (a0b f0t cN)) Tryz.func182 S.d6n
def d6h:Ct:=⟨[PK.ro Kd.str,PK.ro Kd.str],true,[oR Kd.str,oR Kd.str,oR Kd.bool],S.b5h,[]⟩
theorem e1b (hM:InM gl):a0l Tryz.prog gl 184 d6h:=by
 refine b4n (enters_of Tryz.func184 (by kernel_rfl) (by kernel_rfl)) (fun _ _ _ _ _ _=>trivial) (fun w M0 W0 us x γ hl hW ha r hr=> ?_);obtain⟨s,b,q⟩:=x;obtain⟨u1,_,rfl,⟨c1,h1,h1'⟩,u2,_,rfl,⟨c2,h2,h2'⟩,rfl⟩:=ha;cases h1';cases h2';subst h1;subst h2;unfold S.b5h at hr;split at hr
 case isFalse=>cases hr
 rename_i hc;cases hr;obtain⟨m,hm⟩:=hM;refine(Tryz.strings_Cut s b m w hc (f6y hl hm)).mono ?_
 rintro e w' ⟨rfl,n,rfl⟩
 exact⟨[_,_,_],rfl,⟨rfl,rfl,rfl,Nat.le_refl _,fun _ _=>rfl⟩,fun M'=>⟨[_],[_,_],rfl,fun _=>rfl,rfl,[_],[_],rfl,fun _=>rfl,rfl,[_],rfl,fun _=>rfl,rfl⟩⟩
def c1q:Ct:=⟨[PK.ro Kd.str,PK.ro Kd.str],true,[oR Kd.str,oR Kd.bool],S.a7e,[]⟩
theorem c2t:a0l Tryz.prog gl 185 c1q:=by
 refine b4n (enters_of Tryz.func185 (by kernel_rfl) (by kernel_rfl)) (fun _ _ _ _ _ _=>trivial) (fun w M0 W0 us x γ hl hW ha r hr=> ?_);obtain⟨s,b,q⟩:=x;obtain⟨u1,_,rfl,⟨c1,h1,h1'⟩,u2,_,rfl,⟨c2,h2,h2'⟩,rfl⟩:=ha;cases h1';cases h2';subst h1;subst h2;cases hr;refine(Tryz.strings_CutPrefix s b w).mono ?_
 rintro e w' ⟨rfl,rfl⟩
 exact⟨[_,_],rfl,Below.refl _ _,fun M'=>⟨[_],[_],rfl,fun _=>rfl,rfl,[_],rfl,fun _=>rfl,rfl⟩⟩
def d6i:Ct:=⟨[PK.bo lU],true,[oR (Kd.int IntKind.u64),oR Kd.bool],S.a5k,[]⟩
theorem e1c:a0l Tryz.prog gl 203 d6i:=VV mixed a2j [] [(3,[(5,dI),(0,Sp.dat true lU),(4,Sp.dat false (Kd.int IntKind.u64))])] P.b8q cN Tryz.func203 S.d6o
def b5f:Ct:=⟨[PK.ro aU],false,[oR aI],S.a3h,[]⟩
theorem b5l:a0l Tryz.prog gl 214 b5f:=by
 refine b4n (enters_of Tryz.func214 (by kernel_rfl) (by kernel_rfl)) (fun _ _ _ _ _ _=>trivial) (fun w M0 W0 us x γ hl hW ha r hr=> ?_);obtain⟨n,q⟩:=x;obtain⟨u1,_,rfl,⟨c1,h1,h1'⟩,rfl⟩:=ha;cases h1';subst h1;unfold S.a3h at hr;split at hr
 case isFalse=>cases hr
 rename_i hc;cases hr;refine(Tryz.bits_LeadingZeros32 n w hc.1 hc.2).mono ?_
 rintro e w' ⟨rfl,rfl⟩
 exact⟨[_],rfl,Below.refl _ _,fun M'=>⟨[_],rfl,fun _=>rfl,rfl⟩⟩
def c7b:Ct:=⟨[PK.bo lU,PK.ro aU],true,[oR lU,oR aU],S.a2y,[]⟩
theorem b8y:a0l Tryz.prog gl 204 c7b:=VV mixed a2j [] [(3,[(8,dI),(7,Sp.dat false (Kd.int IntKind.u64)),(0,Sp.dat true lU),(6,Sp.own (88) true aU),(1,Sp.dat false aU)])] P.b6l (a0b a8x cN) Tryz.func204 S.c7i
def c9h:Ct:=⟨[PK.bo lU,pI],false,[(false,[RC.own aU])],S.a3r,[]⟩
theorem d3f:a0l Tryz.prog gl 215 c9h:=VV mixed a2j [] [(3,[(15,dI),(14,dI),(13,Sp.dat true lU),(1,dI),(5,Sp.own (96) true aU)])] P.b8r cN Tryz.func215 S.c9m
def e1d:Ct:=⟨[PK.mu aU,PK.bo lU,PK.ro (Kd.int IntKind.u64)],false,rB,S.a8z,[]⟩
theorem e5y:a0l Tryz.prog gl 216 e1d:=VV mixed a2j [] [(18,[(59,dI),(58,dI),(7,Sp.dat false (Kd.int IntKind.u64)),(0,Sp.own (0) false aU),(1,Sp.dat true lU)]),(3,[(14,dI),(13,dI),(1,Sp.dat true lU),(7,Sp.dat false (Kd.int IntKind.u64)),(2,Sp.dat false (Kd.int IntKind.u64)),(0,Sp.own (0) false aU),(8,dI)])] P.c7j cN Tryz.func216 S.e1o
def e5z:Ct:=⟨[PK.ro lU,PK.ro lU],true,[oR lU,oR lU],S.a5a,[]⟩
theorem f5v (xs:List Int) (x:Int):c6w (xs++[x])=if x=0 then c6w xs else xs.length+1:=by
 unfold c6w;rw[List.reverse_append]
 by_cases h:x=0
 ·simp [h]
 ·simp [h]
theorem g5d (xs:List Int):c6w xs<=xs.length:=by
 unfold c6w;have:=(List.dropWhile_sublist (fun x:Int=>x==0) (l:=xs.reverse)).length_le;simpa using this
def h3r:Value->Nat
 | .slice _ m _=>m
 |_=>0
set_option maxHeartbeats 800000 in
set_option maxRecDepth 100000 in
theorem f5w (b o real:Nat) (xs:List Int) (w:World) (hle:xs.length<=real) (hbig:xs.length<=1000000000000) (hc:∀(i:Nat) (x:Int),xs[i]? =some x->w.cell? ⟨b,o+i,none⟩=some (.int .u32 x)):
  Calls Tryz.prog 196 #[.slice (some ⟨b,o,none⟩) xs.length real] w fun e w'=>e= .returned (.slice (some ⟨b,o,none⟩) (c6w xs) real)/\w'=w:=by
 go_enter Tryz.func196,Tryz.ntmps196
 go_wp2
 go_loopw [0] (fun v wr=>∃m:Nat,m<=xs.length/\v= .slice (some ⟨b,o,none⟩) m real/\wr=w/\c6w (xs.take m)=c6w xs) (fun v _=>h3r v)
 case atStart=>exact⟨xs.length,Nat.le_refl _,rfl,rfl,by rw[List.take_length]⟩
 case round=>
  obtain⟨m,hm,rfl,rfl,ht⟩:=hrel
  by_cases h0:0<m
  ·obtain⟨k,rfl⟩:∃k,m=k+1:=⟨m - 1,by omega⟩
   have hx:xs[k]? =some xs[k]:=List.getElem?_eq_getElem (by omega);have hcx:=hc k _ hx;have hw:wrap64 (((k+1:Nat):Int) - 1)=(k:Int):=by
    have e:((k+1:Nat):Int) - 1=(k:Int):=by omega
    rw[e];exact IntWalk.wrap64_in _ (by omega)
   have ht':c6w (xs.take (k+1))=if xs[k]=0 then c6w (xs.take k)else k+1:=by
    rw[<-List.take_append_getElem (show k<xs.length by omega),f5v];have:(xs.take k).length=k:=by simp;omega
    rw[this]
   go_wp2
   ·have hz:(xs[k]==0)=true:=by assumption
    have hz':xs[k]=0:=by simpa using hz
    rw[if_pos hz']at ht';exact⟨⟨k,by omega,rfl,trivial,by rw[<-ht',ht]⟩,Nat.lt_succ_self k⟩
   ·have hz:(xs[k]==0)=false:=by assumption
    have hz':¬xs[k]=0:=by simpa using hz
    rw[if_neg hz']at ht';rw[<-ht,ht']
    go_ret
    exact⟨rfl,rfl⟩
  ·have h1:m=0:=by omega
   subst h1
   go_wp2
   have h2:c6w xs=0:=by rw[<-ht];rfl
   rw[h2]
   go_ret
   exact⟨rfl,rfl⟩
set_option maxHeartbeats 800000 in
set_option maxRecDepth 100000 in
theorem f0u (A:Option Addr) (real:Nat) (w:World):
  Calls Tryz.prog 196 #[.slice A 0 real] w fun e w'=>e= .returned (.slice A 0 real)/\w'=w:=by
 go_enter Tryz.func196,Tryz.ntmps196
 go_wp2
 refine wp_loop_rounds 1 ?_;rw[rounds_succ]
 go_wp2
 go_ret
 exact⟨rfl,rfl⟩
theorem g5e:ShrOk Tryz.prog 196 IntKind.u32 c6w:=by
 refine⟨enters_of Tryz.func196 (by kernel_rfl) (by kernel_rfl),fun w u xs A real hbig hsl hno hc=> ?_⟩;obtain⟨A',rfl,hle,hA⟩:=hsl;rcases Nat.eq_zero_or_pos real with h0|h0
 ·have h1:xs=[]:=List.eq_nil_of_length_eq_zero (by omega);subst h1;refine(f0u A' real w).mono ?_
  rintro e w' ⟨rfl,rfl⟩
  exact⟨rfl,Nat.le_refl _,_,rfl,rfl,A',rfl,Nat.zero_le _,fun h=>by omega⟩
 ·obtain⟨b,o,rfl,rfl⟩:=hA h0;refine(f5w b o real xs w hle hbig (hc b o rfl)).mono ?_
  rintro e w' ⟨rfl,rfl⟩
  have:=g5d xs;exact⟨rfl,this,_,rfl,rfl,_,rfl,by omega,fun _=>⟨b,o,rfl,rfl⟩⟩
theorem d3g:a0l Tryz.prog gl 195 e5z:=VV mixed a2j [] [(26,[(148,dI),(147,dI),(9,Sp.own (400) true aU),(8,dI),(13,Sp.own (592) true aU)]),(17,[(17,Sp.dat false (Kd.int IntKind.u64)),(12,Sp.dat false (Kd.int IntKind.u64)),(18,Sp.dat false (Kd.int IntKind.u64)),(9,Sp.own (400) true aU),(15,dI),(11,Sp.dat false (Kd.int IntKind.u64)),(14,dI),(10,Sp.dat false lU),(13,Sp.own (592) true aU),(8,dI)]),(12,[(14,dI),(10,Sp.dat false lU),(9,Sp.own (400) true aU),(11,Sp.dat false (Kd.int IntKind.u64)),(12,Sp.dat false (Kd.int IntKind.u64)),(13,Sp.own (592) true aU),(8,dI)])] P.d3t (a0b b5l (a0b a8x (a0b b8n (a0b b8y (a0b d3f (a0b e5y (h2r (s:=(IntKind.u32,c6w)) g5e))))))) Tryz.func195 S.e6w
def e6a:Ct:=⟨[PK.ro lU,PK.ro lU],false,[oR lU],S.a5s,[]⟩
theorem d3h:a0l Tryz.prog gl 187 e6a:=VV mixed a2j [] [(5,[(7,Sp.dat false (Kd.int IntKind.u64)),(5,Sp.dat false (Kd.int IntKind.u64))]),(1,[(1,Sp.dat false lU),(0,Sp.dat false lU)])] P.d3u (a0b c0d (a0b e1c (a0b d3g cN))) Tryz.func187 S.e6y
def c1r:Ct:=⟨[PK.ro Kd.str,pI,pI],true,[oR (Kd.int IntKind.u64),oR Kd.er],S.a3v,[]⟩
theorem c2u (hR:InR gl) (hS:InS gl):a0l Tryz.prog gl 202 c1r:=by
 refine b4n (enters_of Tryz.func202 (by kernel_rfl) (by kernel_rfl)) (fun _ _ _ _ _ _=>trivial) (fun w M0 W0 us x γ hl hW ha r hr=> ?_);obtain⟨s,b,z,q⟩:=x;obtain⟨u1,_,rfl,⟨c1,h1,h1'⟩,u2,_,rfl,⟨c2,h2,h2'⟩,u3,_,rfl,⟨c3,h3,h3'⟩,rfl⟩:=ha;cases h1';cases h2';cases h3';subst h1;subst h2;subst h3;unfold S.a3v at hr;split at hr
 case isFalse=>cases hr
 rename_i hc;obtain⟨hb,hz,hs⟩:=hc;dsimp only at hb hz hs hr;subst hb;subst hz;obtain⟨t1,p1,hS⟩:=hS;obtain⟨t2,p2,hR⟩:=hR;have v1:w.var? Tryz.prog "strconv.ErrSyntax" =some #[.iface t1 p1]:=d8m hl hS (by kernel_rfl);have v2:w.var? Tryz.prog "strconv.ErrRange" =some #[.iface t2 p2]:=d8m hl hR (by kernel_rfl);split at hr
 ·rename_i v hv;cases hr;refine(Tryz.strconv_ParseUint_10_at64_ok s (by omega) v hv w).mono ?_
  rintro e w' ⟨rfl,hw⟩
  refine⟨[_,_],rfl,?_,fun M'=>⟨[_],[_],rfl,fun _=>rfl,rfl,[_],rfl,fun _=>rfl,_,rfl,rfl,rfl⟩⟩;rcases hw with rfl|⟨t,rfl⟩
  ·exact Below.refl _ _
  ·exact⟨rfl,rfl,rfl,by rw[Lib.bytesWorld_size];omega,fun k hk=>Lib.bytesWorld_at_old _ _ _ k (by omega)⟩
 ·rename_i hv;cases hr;refine(Tryz.strconv_ParseUint_10_at64_syntax_var s hs hv t1 p1 w v1).mono ?_
  rintro e w' ⟨N,rfl,_,_,hbl⟩
  exact⟨[_,_],rfl,hbl,fun M'=>⟨[_],[_],rfl,fun _=>rfl,rfl,[_],rfl,fun _=>rfl,_,rfl,rfl,_,_,rfl⟩⟩
 ·rename_i hv;cases hr;refine(Tryz.strconv_ParseUint_10_at64_range_var s hs hv t2 p2 w v2).mono ?_
  rintro e w' ⟨N,rfl,_,_,hbl⟩
  exact⟨[_,_],rfl,hbl,fun M'=>⟨[_],[_],rfl,fun _=>rfl,rfl,[_],rfl,fun _=>rfl,_,rfl,rfl,_,_,rfl⟩⟩
def e6b:Ct:=⟨[PK.bo lU,PK.bo lU],false,[oR lU],S.b0b,[]⟩
theorem d3i:a0l Tryz.prog gl 172 e6b:=VV mixed a2j [] [(5,[(21,dI),(20,dI),(6,Sp.dat false (Kd.int IntKind.u64)),(0,Sp.dat true lU),(1,Sp.dat true lU),(5,Sp.own (144) true aU)])] P.c4w (a0b a8x cN) Tryz.func172 S.e6z
def e6c:Ct:=⟨[PK.ro Kd.str],true,[oR lU,oR Kd.bool],S.b0c,[]⟩
theorem f0v (hR:InR gl) (hS:InS gl):a0l Tryz.prog gl 186 e6c:=VV mixed a2j [] [(17,[(59,dI),(58,dI),(9,Sp.dat false (Kd.int IntKind.u64)),(4,Sp.dat false lU),(7,Sp.dat false (Kd.int IntKind.u64)),(0,Sp.dat false Kd.str),(6,dI)]),(10,[(0,Sp.dat false Kd.str),(4,Sp.dat false lU)]),(5,[(30,dI),(29,dI),(0,Sp.dat false Kd.str),(4,Sp.dat false lU)])] P.d3v (a0b (c2u hR hS) (a0b c0d (a0b d3i (a0b b8o cN)))) Tryz.func186 S.e7a
def e6d:Ct:=⟨[PK.ro Kd.str],true,[(true,[RC.ro KR]),oR Kd.bool],S.b7c,[]⟩
theorem f0w (hM:InM gl) (hR:InR gl) (hS:InS gl):a0l Tryz.prog gl 138 e6d:=VV mixed a2j [] [] P.d3w (a0b (e1b hM) (a0b c2t (a0b c0d (a0b b8n (a0b d3h (a0b (f0v hR hS) cN)))))) Tryz.func138 S.e7c
def g0c:Ct:=⟨[PK.bo lT],true,[oR lR,oR Kd.bool],S.e7d,[]⟩
theorem g5f (hM:InM gl) (hR:InR gl) (hS:InS gl):a0l Tryz.prog gl 75 g0c:=VV mixed a2j [] [(5,[(15,dI),(14,dI),(13,Sp.dat true lT),(4,Sp.own (96) true KR)])] P.g0r (a0b (f0w hM hR hS) cN) Tryz.func75 S.g0s
def e6e:Ct:=⟨[PK.bo lU,PK.bo lU],false,[oR lU],S.b0d,[]⟩
theorem f0x:a0l Tryz.prog gl 173 e6e:=VV mixed a2j [] [(3,[(14,dI),(13,dI),(0,Sp.dat true lU),(6,dI),(1,Sp.dat true lU),(5,Sp.own (88) true aU)])] P.d3x (a0b a8x cN) Tryz.func173 S.e7e
def f0y:Ct:=⟨[PK.ro Kd.bool,PK.ro lU,PK.ro lU],false,[(true,[RC.ro KR])],S.a5m,[]⟩
theorem d7y:a0l Tryz.prog gl 169 f0y:=VV mixed a2j [] [] P.e1p (a0b c0d (a0b d3g (a0b d3h cN))) Tryz.func169 S.f1j
def e6f:Ct:=⟨[pR,pR],false,[(true,[RC.ro KR])],S.a3m,[]⟩
theorem c2v:a0l Tryz.prog gl 119 e6f:=VV mixed a2j [] [] P.d0w (a0b b8n (a0b f0x (a0b d3i (a0b b8o (a0b d7y (a0b a6p cN)))))) Tryz.func119 S.e3w
def g5g:Ct:=⟨[PK.ro lR],false,[(true,[RC.ro KR])],S.f4l,[]⟩
theorem h0x:a0l Tryz.prog gl 78 g5g:=VV mixed a2j [] [(3,[(9,dI),(8,dI),(7,Sp.dat false lR),(3,Sp.var (24) KR),(2,Sp.var (16) KR)])] P.g9k (a0b b5e (a0b c2v cN)) Tryz.func78 S.g3w
def e6g:Ct:=⟨[PK.bo KR],false,rB,S.b4s,[]⟩
theorem c2w:a0l Tryz.prog gl 77 e6g:=VV mixed a2j [] [] P.d0x (a0b a6p cN) Tryz.func77 S.e3x
def b0s:Ct:=⟨[PK.bo lR,PK.fn (77)],false,[oR aI],S.a1p,[]⟩
theorem b1m:a0l Tryz.prog gl 139 b0s:=VV mixed a2j [] [(2,[(8,dI),(7,dI),(1,Sp.fn (77)),(0,Sp.dat true lR)])] P.a3i (a0b c2w cN) Tryz.func139 S.b0p
def a8m:Ct:=⟨[PK.bo lR,PK.fn (77)],false,rB,S.a0t,[]⟩
theorem a9g:a0l Tryz.prog gl 76 a8m:=VV mixed a2j [] [] P.a2q (a0b c2w (a0b b1m cN)) Tryz.func76 S.a8k
def e6h:Ct:=⟨[PK.bo KR],false,rB,S.b4t,[]⟩
theorem d3j:a0l Tryz.prog gl 158 e6h:=VV mixed a2j [] [] P.d0y (a0b a6p cN) Tryz.func158 S.e3y
def a9x:Ct:=⟨[PK.bo lR,PK.fn (158)],false,[oR aI],S.a1i,[]⟩
theorem b0t:a0l Tryz.prog gl 139 a9x:=VV mixed a2j [] [(2,[(8,dI),(7,dI),(1,Sp.fn (158)),(0,Sp.dat true lR)])] P.a3a (a0b d3j cN) Tryz.func139 S.a9r
def a7t:Ct:=⟨[PK.bo lR,PK.fn (158)],false,rB,S.a2o,[]⟩
theorem a8n:a0l Tryz.prog gl 76 a7t:=VV mixed a2j [] [] P.a2n (a0b d3j (a0b b0t cN)) Tryz.func76 S.a7p
def d6j:Ct:=⟨[PK.bo lT],true,[oR lR,oR Kd.bool],S.b0z,[]⟩
theorem e1e (hM:InM gl) (hR:InR gl) (hS:InS gl):a0l Tryz.prog gl 136 d6j:=VV mixed a2j [] [] P.c2g (a0b e1a (a0b (g5f hM hR hS) (a0b h0x (a0b c2w (a0b a9g (a0b a8n cN)))))) Tryz.func136 S.d5g
def e6i:Ct:=⟨[PK.bo (Kd.st mT)],true,[oR mR,oR Kd.bool],S.b6o,[]⟩
theorem f0z (hM:InM gl) (hR:InR gl) (hS:InS gl):a0l Tryz.prog gl 64 e6i:=VV mixed a2j [] [(5,[(23,dI),(22,dI),(21,Sp.dat true mT),(1,Sp.varb (8) mT),(4,Sp.own (152) true lR)])] P.d0z (a0b (e1e hM hR hS) cN) Tryz.func64 S.e3z
def c0e:Ct:=⟨[PK.ro (Kd.int IntKind.u64),pI],false,[oR Kd.str],S.a4k,[]⟩
set_option maxHeartbeats 6400000 in
set_option maxRecDepth 100000 in
open Go.Proofs Go.Shelf Go.RowKit Go.Sort Go.Lib in
theorem g5h (i:Nat) (hi:i<100) (w:World):
  Calls Tryz.prog 222 #[.int .u64 i, .int .i64 10] w fun e w'=>e= .returned (.string ⟨(Lib.decDigits i).toArray⟩)/\w'=w:=by
 have eSm:∀args w,(callFunc 239 args).run Tryz.prog w= .ok (.enter 239 args) w:=Go.Proofs.enters_of Tryz.func239 (by kernel_rfl) rfl
 go_enter Tryz.func222,Tryz.ntmps222
 go_wp2_with (go_at_fn 239;refine(Tryz.internal_strconv_small i hi _).mono ?_;rintro e w' ⟨rfl,rfl⟩)
 go_ret
 exact⟨rfl,rfl⟩
set_option maxHeartbeats 12800000 in
set_option maxRecDepth 100000 in
open Go.Proofs Go.Shelf Go.RowKit Go.Sort Go.Lib in
theorem h3s (u:Nat) (hu:100<=u) (hu64:u<18446744073709551616) (w:World)
  (htab:Lib.TabIs Tryz.prog w "internal/strconv.uint64pow10" .u64 Lib.pow10Tab):
  Calls Tryz.prog 222 #[.int .u64 u, .int .i64 10] w fun e w'=>e= .returned (.string ⟨(Lib.decDigits u).toArray⟩)/\∃k os,w'=grow (w.drewN k) os:=by
 have eNd:∀args w,(callFunc 240 args).run Tryz.prog w= .ok (.enter 240 args) w:=Go.Proofs.enters_of Tryz.func240 (by kernel_rfl) rfl;have eFb:∀args w,(callFunc 241 args).run Tryz.prog w= .ok (.enter 241 args) w:=Go.Proofs.enters_of Tryz.func241 (by kernel_rfl) rfl;have hu1:1<=u:=by omega
 have hnd20:Lib.nDigits u<=20:=by have:=Lib.numDigits_eq u hu1 hu64;split at this<;>omega
 have hal:Tryz.prog.arrayLen 259=24:=by simp [Program.arrayLen,Tryz.underlying259]
 have hsl:∀W,(Instr.sliceAt 259 (.pointer (some ⟨w.heap.size,0,none⟩)) none (some (.int .i64 (Lib.nDigits u:Int))) none).run Tryz.prog W= .ok (.slice (some ⟨w.heap.size,0,none⟩) (Lib.nDigits u) 24) W:=fun W=>by
  rw[run_sliceAt_array_h W 259 ⟨w.heap.size,0,none⟩ (by simp [Program.arrayLen,Program.elem,Tryz.underlying259]) .i64 (Lib.nDigits u:Int) (by omega) (by rw[hal];omega)]
  go_simp
 have hH0:=Lib.holds_zero0 w 259 (Lib.nDigits u) (by omega);have hfmt:=Tryz.internal_strconv_formatBase10 w.heap.size 0 24 u (Array.replicate (Lib.nDigits u) 0) (w.alloc (.cells Lib.zeros24 259)) hH0 (by rw[Array.size_replicate];exact Lib.lt_pow_nDigits u) hu64 (by rw[Array.size_replicate];omega);rw[Array.size_replicate]at hfmt;have HH0:=Lib.hid hH0;have iu:(100:Int)<=(u:Int):=by omega
 clear hH0 hal
 go_enter Tryz.func222,Tryz.ntmps222
 go_wp2_with (first
  |(go_at_fn 240;refine(Tryz.internal_strconv_numDigits u hu1 hu64 _ (Lib.tabIs_alloc htab _)).mono ?_;rintro e w' ⟨rfl,rfl⟩))
 go_at_fn 241
 refine hfmt.mono ?_
 rintro e w' ⟨rfl,k,v',dk,rfl,hF⟩
 have hcv:(convert 170 9 (.slice (some ⟨w.heap.size,0,none⟩) (Lib.nDigits u) 24)).run Tryz.prog ((putRow (fun(b:UInt8)=>Value.int .u8 (b.toNat:Int)) (w.alloc (.cells Lib.zeros24 259)) w.heap.size 0 dk).drewN k)= .ok (.string ⟨(Lib.decDigits u).toArray⟩) ((putRow (fun(b:UInt8)=>Value.int .u8 (b.toNat:Int)) (w.alloc (.cells Lib.zeros24 259)) w.heap.size 0 dk).drewN k):=by
  have h:=run_convert_bytes_back (P:=Tryz.prog) ((putRow (fun(b:UInt8)=>Value.int .u8 (b.toNat:Int)) (w.alloc (.cells Lib.zeros24 259)) w.heap.size 0 dk).drewN k) 170 9 5 ⟨w.heap.size,0,none⟩ 24 (Lib.decDigits u) Tryz.underlying170 Tryz.underlying5 Tryz.underlying9 (fun j hj=>by
   rw[Lib.row_is_numeral hF j hj,Lib.add_plain,World.cell?_drewN];exact cell?_putRow (fun(b:UInt8)=>Value.int .u8 (b.toNat:Int)) _ w.heap.size 0 _ dk HH0.out (by rw[hF.size,Array.size_replicate]) j (by rw[hF.size];rw[Lib.decDigits_length]at hj;exact hj))
  rw[Lib.decDigits_length]at h;exact h
 go_wp2
 go_ret
 obtain⟨os,eo⟩:=Lib.fin_at w (.cells Lib.zeros24 259) dk k 0;exact⟨rfl,k,os,eo⟩
set_option maxRecDepth 100000 in
open Go.Proofs Go.Shelf Go.RowKit Go.Sort Go.Lib in
theorem h3t (n:Nat) (h:n<18446744073709551616) (w:World)
  (htab:Lib.TabIs Tryz.prog w "internal/strconv.uint64pow10" .u64 Lib.pow10Tab):
  Calls Tryz.prog 205 #[.int .u64 n, .int .i64 10] w fun e w'=>e= .returned (.string ⟨(Lib.decDigits n).toArray⟩)/\∃k os,w'=grow (w.drewN k) os:=by
 have eFu:∀args w,(callFunc 222 args).run Tryz.prog w= .ok (.enter 222 args) w:=Go.Proofs.enters_of Tryz.func222 (by kernel_rfl) rfl;have hin:Calls Tryz.prog 222 #[.int .u64 n, .int .i64 10] w fun e w'=>e= .returned (.string ⟨(Lib.decDigits n).toArray⟩)/\∃k os,w'=grow (w.drewN k) os:=by
  by_cases h1:n<100
  ·refine(g5h n h1 w).mono ?_
   rintro e w' ⟨rfl,rfl⟩
   exact⟨rfl,0, #[],by simp [World.drewN_zero]⟩
  ·exact h3s n (by omega) h w htab
 go_enter Tryz.func205,Tryz.ntmps205
 go_wp2_with (go_at_fn 222;refine hin.mono ?_;rintro e w' ⟨rfl,k,os,rfl⟩)
 go_ret
 exact⟨rfl,k,os,rfl⟩
theorem f5x (w:World) (k:Nat) (os:Array Obj):Below w.heap.size w (Go.Sort.grow (w.drewN k) os):=⟨rfl,rfl,rfl,by simp [Go.Sort.grow,World.drewN],fun b hb=>by simp [Go.Sort.grow,World.drewN,Array.getElem?_append_left hb]⟩
theorem c1s (hP:InP gl):a0l Tryz.prog gl 205 c0e:=by
 refine b4n (enters_of Tryz.func205 (by kernel_rfl) (by kernel_rfl)) (fun _ _ _ _ _ _=>trivial) (fun w M0 W0 us x γ hl hW ha r hr=> ?_);obtain⟨n,b,q⟩:=x;obtain⟨u1,_,rfl,⟨c1,h1,h1'⟩,u2,_,rfl,⟨c2,h2,h2'⟩,rfl⟩:=ha;cases h1';cases h2';subst h1;subst h2;unfold S.a4k at hr;split at hr
 case isFalse=>cases hr
 rename_i hc;obtain⟨hb,h0,h3⟩:=hc;cases hr;dsimp only at hb h0 h3;subst hb;obtain⟨m,rfl⟩:∃m:Nat,n=(m:Int):=⟨n.toNat,(Int.toNat_of_nonneg h0).symm⟩
 rw[Int.toNat_natCast];have htab:Lib.TabIs Tryz.prog w "internal/strconv.uint64pow10" .u64 Lib.pow10Tab:=d8m hl hP (by kernel_rfl);refine(h3t m (by omega) w htab).mono ?_
 rintro e w' ⟨rfl,k,os,rfl⟩
 exact⟨[_],rfl,f5x _ _ _,fun M'=>⟨[_],rfl,fun _=>rfl,rfl⟩⟩
def d3k:Ct:=⟨[PK.bo lT,PK.ro Kd.str],false,[oR Kd.str],S.b2i,[]⟩
theorem d6k:a0l Tryz.prog gl 208 d3k:=by
 refine b4n (enters_of Tryz.func208 (by kernel_rfl) (by kernel_rfl)) (fun _ _ _ _ _ _=>trivial) (fun w M0 W0 us x γ hl hW ha r hr=> ?_);obtain⟨xs,sep,q⟩:=x;obtain⟨u1,_,rfl,⟨c1,h1,h1'⟩,u2,_,rfl,⟨c2,h2,h2'⟩,rfl⟩:=ha;cases h2';subst h2;obtain⟨A,c,rfl,hlc,hel⟩:=h1';subst h1;unfold S.b2i at hr;split at hr
 case isFalse=>cases hr
 rename_i hc;obtain⟨hn,hj⟩:=hc;cases hr;dsimp only at hn hj
 by_cases h0:xs.length=0
 ·have:xs=[]:=List.eq_nil_of_length_eq_zero h0;subst this;refine(Tryz.strings_Join_none A c sep w).mono ?_
  rintro e w' ⟨rfl,rfl⟩
  exact⟨[_],rfl,Below.refl _ _,fun M'=>⟨[_],rfl,fun _=>rfl,rfl⟩⟩
 ·obtain⟨b,o,rfl,hcell⟩:=hel h0;have hcells:∀(j:Nat) x,xs[j]? =some x->w.cell? ⟨b,o+j,none⟩=some (.string x):=by
   intro j x hx;obtain⟨es,e1,e2⟩:=hcell j x hx;cases e1;have:=(e2 0 _ rfl).1;simpa [Kd.sz]using this
  have hbk:b<w.heap.size:=by
   have:=hcells 0 xs[0] (List.getElem?_eq_getElem (by omega));exact World.block_lt_of_cell? _ _ this
  refine(Tryz.strings_Join b o c xs sep w hcells hbk hn hlc hj).mono ?_
  rintro e w' ⟨rfl,hbl⟩
  exact⟨[_],rfl,hbl,fun M'=>⟨[_],rfl,fun _=>rfl,rfl⟩⟩
def c7c:Ct:=⟨[PK.ro Kd.str,pI],false,[oR Kd.str],S.a7q,[]⟩
theorem c9i:a0l Tryz.prog gl 206 c7c:=by
 refine b4n (enters_of Tryz.func206 (by kernel_rfl) (by kernel_rfl)) (fun _ _ _ _ _ _=>trivial) (fun w M0 W0 us x γ hl hW ha r hr=> ?_);obtain⟨s,c,q⟩:=x;obtain⟨u1,_,rfl,⟨c1,h1,h1'⟩,u2,_,rfl,⟨c2,h2,h2'⟩,rfl⟩:=ha;cases h1';cases h2';subst h1;subst h2;unfold S.a7q at hr;split at hr
 case isFalse=>cases hr
 rename_i hc;obtain⟨g0,g1,g2⟩:=hc;dsimp only at g0 g1 g2 hr;cases hr;obtain⟨n,rfl⟩:∃n:Nat,c=(n:Int):=⟨c.toNat,(Int.toNat_of_nonneg g0).symm⟩
 have hm:s.size*n<=1000000*1000000:=Nat.mul_le_mul g2 (by omega);refine(Tryz.strings_Repeat s n w (by omega) (by omega)).mono ?_
 rintro e w' ⟨rfl,hb⟩
 exact⟨[_],rfl,hb,fun M'=>⟨[_],rfl,fun _=>rfl,rfl⟩⟩
def b0u:Ct:=⟨[PK.mu Kd.str],true,[],S.a0z,[]⟩
theorem b1n:a0l Tryz.prog gl 207 b0u:=VV mixed a2j [] [(1,[(2,dI),(3,dI),(0,Sp.own (0) false Kd.str)])] P.a3j cN Tryz.func207 S.b0q
def e1f:Ct:=⟨[PK.bo lU],false,[oR Kd.str],S.b1a,[]⟩
theorem e6j (hP:InP gl):a0l Tryz.prog gl 188 e1f:=VV mixed a2j [] [(4,[(0,Sp.dat true lU),(3,Sp.own (80) true Kd.str)])] P.c5v (a0b (c1s hP) (a0b d6k (a0b c9i (a0b b1n (a0b b8y cN))))) Tryz.func188 S.d9g
def e1g:Ct:=⟨[PK.bo KR],true,[oR Kd.str,oR Kd.bool],S.b1b,[]⟩
theorem e6k (hP:InP gl):a0l Tryz.prog gl 140 e1g:=VV mixed a2j [] [] P.c5w (a0b (e6j hP) cN) Tryz.func140 S.d9h
def e1h:Ct:=⟨[PK.bo lR],true,[(false,[RC.own Kd.str]),oR Kd.bool],S.b4f,[]⟩
theorem e6l (hP:InP gl):a0l Tryz.prog gl 80 e1h:=VV mixed a2j [] [(3,[(12,dI),(11,dI),(10,Sp.dat true lR),(4,Sp.own (72) true Kd.str)])] P.c5x (a0b (e6k hP) cN) Tryz.func80 S.d9i
def d6l:Ct:=⟨[PK.bo mR],true,[(true,[RC.rows Kd.str]),oR Kd.bool],S.b1c,[]⟩
theorem e1i (hP:InP gl):a0l Tryz.prog gl 103 d6l:=VV mixed a2j [1000027] [(3,[(12,dI),(11,dI),(10,Sp.dat true mR),(2,Sp.var (16) (Kd.st mT)),(4,Sp.vrow (32) (224) Kd.str)])] P.c2h (a0b (e6l hP) cN) Tryz.func103 S.d5h
def c4t:Ct:=⟨[PK.ro (Kd.int IntKind.u64),PK.ro (Kd.int IntKind.u64)],true,[oR (Kd.int IntKind.u64),oR (Kd.int IntKind.u64)],S.b4v,[]⟩
theorem c7d:a0l Tryz.prog gl 190 c4t:=VV mixed a2j [] [] P.b4u cN Tryz.func190 S.c3p
def c9j:Ct:=⟨[PK.ro (Kd.int IntKind.u64),PK.ro (Kd.int IntKind.u64)],true,[oR (Kd.int IntKind.u64),oR (Kd.int IntKind.u64)],S.a2v,[]⟩
theorem c0f:a0l Tryz.prog gl 146 c9j:=VV mixed a2j [] [] P.b7v (a0b c7d cN) Tryz.func146 S.c8s
def b3g:Ct:=⟨[PK.ro lI,pI],false,[(false,[RC.own aI])],S.a1l,[]⟩
theorem b3t:a0l Tryz.prog gl 87 b3g:=VV mixed a2j [] [(8,[(8,dI),(7,Sp.own (240) true aI)])] PP.a6k (a0b c0f cN) Tryz.func87 (fun x r h=>(S.b3c x r h).imp fun k hk=>(PP.b2j k x).trans hk)
def f5y:Ct:=⟨[PK.bo mR,pI],false,[(false,[RC.own Kd.bool])],S.c5z,[]⟩
theorem g0d:a0l Tryz.prog gl 183 f5y:=VV mixed a2j [] [(7,[(29,dI),(28,dI),(27,Sp.dat true lR),(5,Sp.own (88) true Kd.bool),(6,Sp.own (128) true aI),(0,Sp.dat true mR)]),(4,[(6,Sp.own (128) true aI),(0,Sp.dat true mR),(5,Sp.own (88) true Kd.bool)])] P.e9e (a0b a6p cN) Tryz.func183 S.f4n
def e6m:Ct:=⟨[PK.bo mR],false,[oR (Kd.sl (Kd.sl Kd.bool))],S.b6q,[]⟩
theorem f1a:a0l Tryz.prog gl 137 e6m:=VV mixed a2j [] [(3,[(8,dI),(7,dI),(3,Sp.own (40) true (Kd.sl Kd.bool)),(0,Sp.dat true mR)])] P.d1a (a0b g0d cN) Tryz.func137 S.e4b
def e6n:Ct:=⟨[PK.bo mR],true,[(false,[RC.own aI]),oR (Kd.sl Kd.bool)],S.b2l,[]⟩
theorem d3l:a0l Tryz.prog gl 65 e6n:=VV mixed a2j [] [(9,[(29,dI),(28,dI),(4,Sp.dat false (Kd.sl (Kd.sl Kd.bool))),(7,dI),(5,Sp.own (120) true aI),(6,Sp.own (128) true Kd.bool),(8,Sp.dat false Kd.bool),(19,dI),(18,dI),(0,Sp.dat true mR)]),(4,[(19,dI),(18,dI),(5,Sp.own (120) true aI),(0,Sp.dat true mR),(4,Sp.dat false (Kd.sl (Kd.sl Kd.bool))),(6,Sp.own (128) true Kd.bool)])] P.d1b (a0b b3t (a0b f1a cN)) Tryz.func65 S.e4d
def e1j:Ct:=⟨[PK.bo mR],false,rB,S.b6r,[]⟩
theorem e6o:a0l Tryz.prog gl 91 e1j:=VV mixed a2j [] [] P.c0y (a0b d3l cN) Tryz.func91 S.d9k
def e6p:Ct:=⟨[pR,pR],false,[(true,[RC.ro KR])],S.a3n,[]⟩
theorem c2x:a0l Tryz.prog gl 118 e6p:=VV mixed a2j [] [] P.d1c (a0b b8o (a0b d7y (a0b b5e (a0b a6p cN)))) Tryz.func118 S.e4e
def e1k:Ct:=⟨[pR,pR],false,[(true,[RC.ro KR])],S.a2t,[]⟩
theorem c0g:a0l Tryz.prog gl 141 e1k:=VV mixed a2j [] [] P.d7g (a0b c2x cN) Tryz.func141 S.d9l
def b3h:Ct:=⟨[PK.ro lR,pI],false,[(false,[RC.own KR])],S.a0q,[]⟩
theorem a6c:a0l Tryz.prog gl 125 b3h:=VV mixed a2j [] [(8,[(8,dI),(7,Sp.own (240) true KR)])] PP.a6l (a0b c0f cN) Tryz.func125 (fun x r h=>(S.b3d x r h).imp fun k hk=>(PP.b2m k x).trans hk)
def f5z:Ct:=⟨[pI],false,[(false,[RC.rows KR])],S.c6a,[]⟩
theorem g0e:a0l Tryz.prog gl 117 f5z:=VV mixed a2j [1000006] [(3,[(9,dI),(8,dI),(3,Sp.rows (48) true KR),(0,dI)])] P.e9f (a0b a6c (a0b b5e cN)) Tryz.func117 S.f4o
def f6a:Ct:=⟨[PK.bo (Kd.sl Kd.bool)],false,[(false,[RC.own aI])],S.c6b,[]⟩
theorem g0f:a0l Tryz.prog gl 83 f6a:=VV mixed a2j [] [(3,[(9,dI),(8,dI),(7,Sp.dat true (Kd.sl Kd.bool)),(3,Sp.own (48) true aI)])] P.e9g cN Tryz.func83 S.f4p
def f1b:Ct:=⟨[PK.ro lR,pR],false,[oR lR],S.b7x,[]⟩
theorem f6b:a0l Tryz.prog gl 81 f1b:=VV mixed a2j [] [(3,[(11,dI),(10,dI),(9,Sp.dat false lR),(5,Sp.own (64) true KR),(3,Sp.var (24) KR)])] P.d9m (a0b c0g cN) Tryz.func81 S.e9h
def g0g:Ct:=⟨[PK.mu KR],false,[(true,[RC.ro KR])],S.d1e,[]⟩
theorem g5i:a0l Tryz.prog gl 78 g0g:=VV mixed a2j [] [(3,[(9,dI),(8,dI),(7,Sp.own (0) false KR),(3,Sp.var (24) KR),(2,Sp.var (16) KR)])] P.f8k (a0b b5e (a0b c2v cN)) Tryz.func78 S.f8l
def f1c:Ct:=⟨[PK.mr KR],false,[oR lR],S.c1d,[]⟩
theorem f6c:a0l Tryz.prog gl 181 f1c:=VV mixed a2j [] [(22,[(98,dI),(97,dI),(9,Sp.var (72) KR),(7,Sp.own (712) true KR),(0,Sp.rows (0) false KR),(8,dI)]),(18,[(8,dI),(0,Sp.rows (0) false KR),(7,Sp.own (712) true KR)]),(11,[(54,dI),(53,dI),(0,Sp.rows (0) false KR),(5,dI),(3,dI),(26,dI),(25,dI),(4,Sp.var (32) KR)]),(6,[(26,dI),(25,dI),(0,Sp.rows (0) false KR),(3,dI),(4,Sp.var (32) KR)]),(2,[(3,dI),(0,Sp.rows (0) false KR)])] P.d9n (a0b b5e (a0b a6p (a0b c2v (a0b c2x (a0b c0g (a0b f6b (a0b g5i cN))))))) Tryz.func181 S.e9i
def g0h:Ct:=⟨[PK.ro mR],true,[oR lR,oR Kd.bool],S.d7h,[]⟩
theorem g5j:a0l Tryz.prog gl 130 g0h:=VV mixed a2j [1000047,1000074] [(26,[(85,dI),(84,dI),(83,Sp.dat false lR),(16,Sp.own (648) true KR),(7,dL)]),(18,[(57,dI),(56,dI),(55,dL),(13,Sp.own (432) true KR),(0,Sp.dat false mR),(12,dI),(10,Sp.rows (376) true KR),(50,dI),(49,dI),(48,dL),(7,dL)]),(14,[(50,dI),(49,dI),(48,dL),(7,dL),(0,Sp.dat false mR),(10,Sp.rows (376) true KR)]),(7,[(32,dI),(31,dI),(30,dL),(6,dL),(7,Sp.own (232) true aI),(0,Sp.dat false mR)])] P.f8n (a0b a6c (a0b b5e (a0b g0f (a0b d3l (a0b f6c cN))))) Tryz.func130 S.f8o
def e1l:Ct:=⟨[PK.ro mR],false,[(false,[RC.rows KR])],S.b4g,[]⟩
theorem e6q:a0l Tryz.prog gl 93 e1l:=VV mixed a2j [] [(7,[(23,dI),(22,dI),(5,Sp.rows (120) true KR),(6,dI),(3,Sp.dat false lR),(0,Sp.dat false mR),(18,dI),(17,dI)]),(4,[(18,dI),(17,dI),(0,Sp.dat false mR),(5,Sp.rows (120) true KR),(3,Sp.dat false lR)])] P.c6c (a0b c2x (a0b c0g (a0b g0e (a0b g5j cN)))) Tryz.func93 S.d9o
def c7e:Ct:=⟨[PK.bo (Kd.st mT)],true,[(true,[RC.rows Kd.str]),oR Kd.bool],S.a5v,[]⟩
theorem c9k (hM:InM gl) (hP:InP gl) (hR:InR gl) (hS:InS gl):a0l Tryz.prog gl 55 c7e:=VV mixed a2j [] [] P.b1x (a0b (f0z hM hR hS) (a0b (e1i hP) (a0b e6o (a0b e6q cN)))) Tryz.func55 S.c6d
def b7a:Ct:=⟨[PK.bo (Kd.st mT)],false,rB,S.a6m,[]⟩
theorem v_l_FnExactReverseChain (hM:InM gl) (hP:InP gl) (hR:InR gl) (hS:InS gl):a0l Tryz.prog gl 12 b7a:=VV mixed a2j [] [] P.a3b (a0b f0a (a0b f0b (a0b d2k (a0b e0i (a0b e5b (a0b e0k (a0b c9g (a0b (c9k hM hP hR hS) cN)))))))) Tryz.func12 S.b6t
end Go.Cm.LnReverseChain
end
