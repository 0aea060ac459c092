import Derived.Test.YtjacdajcppcdlaaGreatDoorPlVisitsBefore
import Derived.Test.YtjacdajcppcdlaaGreatDoorChecked
import Derived.Test.YtjacdajcppcdlaaGreatDoorL5zShelf
import Derived.WalkKit
import Derived.BigCall
import Derived.BigGuard
import Derived.Lib.ItoaMem
import Derived.Lib.AppendIntMem
set_option linter.unusedVariables false
set_option maxRecDepth 100000
noncomputable section
namespace Go.Cm.LnVisitsBefore
open Go.RowKit Go.Proofs
abbrev oR (k:Kd):RK:=(false,[RC.ro k])
abbrev KR:Kd:=Kd.st (Kd.pair Kd.bool (Kd.pair (Kd.sl (Kd.int .u32)) (Kd.sl (Kd.int .u32))))
abbrev KS:Kd:=Kd.st (Kd.pair Kd.bool (Kd.pair (Kd.sl (Kd.int .i64)) (Kd.sl (Kd.int .i64))))
abbrev aI:=Kd.int .i64
abbrev aU:=Kd.int .u32
abbrev lI:=Kd.sl aI
abbrev lU:=Kd.sl aU
abbrev lR:=Kd.sl KR
abbrev lS:=Kd.sl KS
abbrev mR:=Kd.sl lR
abbrev mS:=Kd.sl lS
abbrev lT:=Kd.sl Kd.str
abbrev mT:=Kd.sl lT
abbrev dI:=Sp.dat false aI
abbrev dL:=Sp.dat false lI
abbrev pR:=PK.ro KR
abbrev pS:=PK.ro KS
abbrev pI:=PK.ro aI
abbrev rB:List RK:=[(false,[.ro .bool])]
variable {gl:List (Nat×List Value)}
def td:List (Nat×Td):=[(2,⟨Kd.int IntKind.i64,8,false,0,[]⟩),(3,⟨Kd.int IntKind.i64,8,false,0,[]⟩),(4,⟨Kd.bool,1,false,0,[]⟩),(5,⟨Kd.int IntKind.u8,1,false,0,[]⟩),(9,⟨Kd.str,16,false,0,[]⟩),(20,⟨Kd.er,16,false,0,[]⟩),(22,⟨Kd.sl lT,24,false,27,[]⟩),(24,⟨Kd.st mT,24,true,0,[(0,22)]⟩),(25,⟨Kd.sl aI,24,false,2,[]⟩),(27,⟨Kd.sl Kd.str,24,false,9,[]⟩),(30,⟨Kd.st mT,24,true,0,[(0,22)]⟩),(46,⟨Kd.sl lS,24,false,55,[]⟩),(48,⟨Kd.st mS,24,true,0,[(0,46)]⟩),(51,⟨Kd.pt (Kd.st mT),8,false,0,[]⟩),(53,⟨Kd.pt (Kd.st mS),8,false,0,[]⟩),(55,⟨Kd.sl KS,24,false,78,[]⟩),(59,⟨Kd.sl lR,24,false,64,[]⟩),(60,⟨Kd.sl Kd.bool,24,false,4,[]⟩),(64,⟨Kd.sl KR,24,false,73,[]⟩),(69,⟨Kd.sl aI,24,false,3,[]⟩),(71,⟨Kd.sl aU,24,false,144,[]⟩),(73,⟨KR,56,true,0,[(0,4),(1,71),(2,71)]⟩),(78,⟨KS,56,true,0,[(0,4),(1,25),(2,25)]⟩),(106,⟨Kd.sl (Kd.int IntKind.u8),24,false,5,[]⟩),(117,⟨Kd.int IntKind.u64,8,false,0,[]⟩),(125,⟨Kd.int IntKind.u64,8,false,0,[]⟩),(144,⟨Kd.int IntKind.u32,4,false,0,[]⟩),(184,⟨Kd.er,16,false,0,[]⟩)]
theorem a2g:a6r ⟨Tryz.prog,td,[],[],[]⟩ Tryz.prog:=a2m (tdN Tryz.underlying2) (a2m (tdN Tryz.underlying3) (a2m (tdN Tryz.underlying4) (a2m (tdN Tryz.underlying5) (a2m (tdN Tryz.underlying9) (a2m (tdN ⟨_,Tryz.underlying20⟩) (a2m (tdN Tryz.underlying22) (a2m (tdN ⟨_,Tryz.underlying24,by kernel_rfl,by kernel_rfl⟩) (a2m (tdN Tryz.underlying25) (a2m (tdN Tryz.underlying27) (a2m (tdN ⟨_,Tryz.underlying30,by kernel_rfl,by kernel_rfl⟩) (a2m (tdN Tryz.underlying46) (a2m (tdN ⟨_,Tryz.underlying48,by kernel_rfl,by kernel_rfl⟩) (a2m (.of (by kernel_rfl) (.inl rfl) rfl ⟨_,Tryz.underlying51⟩) (a2m (.of (by kernel_rfl) (.inl rfl) rfl ⟨_,Tryz.underlying53⟩) (a2m (tdN Tryz.underlying55) (a2m (tdN Tryz.underlying59) (a2m (tdN Tryz.underlying60) (a2m (tdN Tryz.underlying64) (a2m (tdN Tryz.underlying69) (a2m (tdN Tryz.underlying71) (a2m (tdN ⟨_,Tryz.underlying73,by kernel_rfl,by kernel_rfl⟩) (a2m (tdN ⟨_,Tryz.underlying78,by kernel_rfl,by kernel_rfl⟩) (a2m (tdN Tryz.underlying106) (a2m (tdN Tryz.underlying117) (a2m (tdN Tryz.underlying125) (a2m (tdN Tryz.underlying144) (a2m (tdN ⟨_,Tryz.underlying184⟩) (tdsNil _ _ _ _))))))))))))))))))))))))))))
theorem mixed:Tryz.prog.follows .mixedOrders=true:=by kernel_rfl
def InP (gl:List (Nat×List Value)):Prop:=(0,Go.Lib.pow10Tab.map fun z=>Value.int .u64 z)∈gl
def InM (gl:List (Nat×List Value)):Prop:=∃m,(1,[Value.int .i64 m])∈gl
def InS (gl:List (Nat×List Value)):Prop:=∃t p,(4,[Value.iface t p])∈gl
def InR (gl:List (Nat×List Value)):Prop:=∃t p,(5,[Value.iface t p])∈gl
def d5t:Ct:=⟨[PK.bo lT,pI],false,[oR aI],S.b0y,[]⟩
theorem e0r:a0k Tryz.prog gl 64 d5t:=VV mixed a2g [] [(5,[(5,dI),(0,Sp.dat true lT),(1,dI)])] P.c2f cN Tryz.func64 S.d5d
def d2t:Ct:=⟨[PK.bo mT,pI],false,[oR aI],S.a5d,[]⟩
theorem d5u:a0k Tryz.prog gl 25 d2t:=VV mixed a2g [] [(5,[(5,dI),(0,Sp.dat true mT),(1,dI)])] P.b9l (a0b e0r cN) Tryz.func25 S.d1c
def ct_l_szChain:Ct:=⟨[PK.bo (Kd.st mT),pI],false,[oR aI],S.b4r,[]⟩
theorem v_l_szChain:a0k Tryz.prog gl 7 ct_l_szChain:=VV mixed a2g [] [] P.b9m (a0b d5u cN) Tryz.func7 S.e4e
def d5v:Ct:=⟨[PK.bo lT,PK.bo lT],false,rB,S.a2j,[]⟩
theorem b8i:a0k Tryz.prog gl 12 d5v:=VV mixed a2g [] [(4,[(5,dI),(0,Sp.dat true lT),(1,Sp.dat true lT)])] P.c2g cN Tryz.func12 S.d5e
def e0s:Ct:=⟨[pI],false,[oR Kd.str],S.a7c,[]⟩
theorem c8g:a0k Tryz.prog gl 38 e0s:=VV mixed a2g [] [(4,[(0,dI),(3,Sp.dat false Kd.str)])] P.c0u cN Tryz.func38 S.d9b
def c9e:Ct:=⟨[PK.mu Kd.str,pI],false,[oR aI],S.a3k,[]⟩
theorem c0e:a0k Tryz.prog gl 17 c9e:=VV mixed a2g [] [(2,[(5,dI),(0,Sp.own (0) false Kd.str),(1,dI)])] P.b7m (a0b c8g cN) Tryz.func17 S.c8t
def c9f:Ct:=⟨[PK.bo lT,pI],false,[oR aI],S.a5n,[]⟩
theorem d2u:a0k Tryz.prog gl 18 c9f:=VV mixed a2g [] [(2,[(5,dI),(0,Sp.dat true lT),(1,dI)])] P.b7n (a0b c8g cN) Tryz.func18 S.c8u
def d2v:Ct:=⟨[pI],false,[oR aI],S.a0u,[]⟩
theorem a6a:a0k Tryz.prog gl 31 d2v:=VV mixed a2g [] [] P.a5e cN Tryz.func31 S.d1d
def d5w:Ct:=⟨[PK.bo lI,PK.ro Kd.bool],false,[(false,[RC.ov aI])],S.a5o,[]⟩
theorem e0t:a0k Tryz.prog gl 10 d5w:=VV mixed a2g [] [(9,[(7,dI),(5,Sp.own (160) true aI),(0,Sp.dat true lI)]),(5,[(6,dI),(0,Sp.dat true lI),(5,Sp.own (160) true aI)])] P.c2h (a0b a6a cN) Tryz.func10 S.d5f
def e0u:Ct:=⟨[PK.bo lI,PK.bo lI],false,rB,S.b3t,[]⟩
theorem v_l_eqInt64S:a0k Tryz.prog gl 36 e0u:=VV mixed a2g [] [(4,[(5,dI),(0,Sp.dat true lI),(1,Sp.dat true lI)])] P.c5v cN Tryz.func36 S.d9c
def c6v:Ct:=⟨[PK.bo (Kd.sv aI),PK.bo (Kd.sv aI)],false,rB,S.a7t,[]⟩
theorem c9g:a0k Tryz.prog gl 14 c6v:=VV mixed a2g [] [] P.b1r (a0b a6a (a0b v_l_eqInt64S cN)) Tryz.func14 S.c5w
def d2w:Ct:=⟨[PK.mu aI,pI],false,[oR aI],S.a8x,[]⟩
theorem d5x:a0k Tryz.prog gl 16 d2w:=VV mixed a2g [] [(2,[(5,dI),(0,Sp.own (0) false aI),(1,dI)])] P.b9n cN Tryz.func16 S.d1g
def c4j:Ct:=⟨[PK.bo (Kd.sv Kd.str),PK.bo (Kd.sv Kd.str)],false,rB,S.a6o,[]⟩
theorem c6w:a0k Tryz.prog gl 72 c4j:=VV mixed a2g [] [] P.a9u (a0b a6a (a0b b8i cN)) Tryz.func72 S.c3u
def d2x:Ct:=⟨[PK.bo mT,PK.bo mT],false,rB,S.b2j,[]⟩
theorem d5y:a0k Tryz.prog gl 73 d2x:=VV mixed a2g [] [(4,[(5,dI),(0,Sp.dat true mT),(1,Sp.dat true mT)])] P.b9o (a0b b8i cN) Tryz.func73 S.d1h
def c2p:Ct:=⟨[PK.bo (Kd.sv (Kd.sv Kd.str)),PK.bo (Kd.sv (Kd.sv Kd.str))],false,rB,S.a4b,[]⟩
theorem c4k:a0k Tryz.prog gl 35 c2p:=VV mixed a2g [] [(5,[(6,dI),(1,Sp.dat true (Kd.sv (Kd.sv Kd.str))),(0,Sp.dat true (Kd.sv (Kd.sv Kd.str))),(5,dI)])] P.b2r (a0b a6a (a0b c6w (a0b d5y cN))) Tryz.func35 S.c2j
def c9h:Ct:=⟨[PK.bo (Kd.st (Kd.sv (Kd.sv Kd.str))),PK.bo (Kd.st (Kd.sv (Kd.sv Kd.str)))],false,rB,S.a9w,[]⟩
theorem d2y:a0k Tryz.prog gl 13 c9h:=VV mixed a2g [] [] P.b3h (a0b c4k cN) Tryz.func13 S.c8w
def c6x:Ct:=⟨[PK.mr Kd.str,pI],false,[oR aI],S.a7u,[]⟩
theorem c9i:a0k Tryz.prog gl 37 c6x:=VV mixed a2g [] [(2,[(5,dI),(0,Sp.rows (0) false Kd.str),(1,dI)])] P.b5z (a0b c0e cN) Tryz.func37 S.c5x
def d5z:Ct:=⟨[PK.mr Kd.str,pI],false,[oR aI],S.b4s,[1,0]⟩
theorem e0v:a0k Tryz.prog gl 15 d5z:=VV mixed a2g [] [] P.b7o (a0b c9i cN) Tryz.func15 S.d5g
def d2z:Ct:=⟨[PK.bo lT,PK.ro Kd.bool],false,[(false,[RC.ov Kd.str])],S.a6q,[]⟩
theorem d6a:a0k Tryz.prog gl 69 d2z:=VV mixed a2g [] [(9,[(7,dI),(5,Sp.own (160) true Kd.str),(0,Sp.dat true lT)]),(5,[(6,dI),(0,Sp.dat true lT),(5,Sp.own (160) true Kd.str)])] P.b9q (a0b a6a cN) Tryz.func69 S.d1j
def c9j:Ct:=⟨[PK.bo mT,PK.ro Kd.bool],false,[(false,[RC.rows Kd.str])],S.a9x,[]⟩
theorem d3a:a0k Tryz.prog gl 30 c9j:=VV mixed a2g [1000020] [(9,[(7,dI),(5,Sp.rows (160) true Kd.str),(0,Sp.dat true mT)]),(5,[(6,dI),(0,Sp.dat true mT),(5,Sp.rows (160) true Kd.str),(1,Sp.dat false Kd.bool)])] P.b7p (a0b a6a (a0b d6a cN)) Tryz.func30 S.c8x
def e0w:Ct:=⟨[PK.bo (Kd.st mT),PK.ro Kd.bool],false,[(true,[RC.rows Kd.str])],S.a8y,[]⟩
theorem v_l_toChaino:a0k Tryz.prog gl 9 e0w:=VV mixed a2g [] [] P.c0v (a0b d3a cN) Tryz.func9 S.d9f
def ct_s_l00Has:Ct:=⟨[PK.bo lI,pI],false,rB,S.a2q,[]⟩
theorem b6s:a0k Tryz.prog gl 58 ct_s_l00Has:=VV mixed a2g [] [(2,[(5,dI),(0,Sp.dat true lI),(1,dI)])] P.d9g cN Tryz.func58 S.s_l00Has_ok
def ct_s_l01Nat:Ct:=⟨[pI],false,[oR lI],S.a7e,[]⟩
theorem d7w:a0k Tryz.prog gl 106 ct_s_l01Nat:=VV mixed a2g [] [(2,[(0,dI),(3,Sp.own (32) true aI)])] P.d9h cN Tryz.func106 S.s_l01Nat_ok
def ct_s_l01Int:Ct:=⟨[pI],false,[(true,[RC.ro KS])],S.c3v,[]⟩
theorem d7x:a0k Tryz.prog gl 76 ct_s_l01Int:=VV mixed a2g [] [] P.d9i (a0b d7w cN) Tryz.func76 S.s_l01Int_ok
def ct_s_l01One:Ct:=⟨[],false,[(true,[RC.ro KS])],S.a7f,[]⟩
theorem c0z:a0k Tryz.prog gl 48 ct_s_l01One:=VV mixed a2g [] [] P.d9j (a0b d7x cN) Tryz.func48 S.s_l01One_ok
def ct_s_l01None:Ct:=⟨[],false,[(true,[RC.ro KS])],S.a4y,[]⟩
theorem c2q:a0k Tryz.prog gl 44 ct_s_l01None:=VV mixed a2g [] [] P.d1k (a0b d7x cN) Tryz.func44 S.e4i
def ct_s_l01Cmp:Ct:=⟨[PK.bo lI,PK.bo lI],false,[oR aI],S.a0n,[]⟩
theorem b4a:a0k Tryz.prog gl 80 ct_s_l01Cmp:=VV mixed a2g [] [(6,[(5,dI),(0,Sp.dat true lI),(1,Sp.dat true lI)])] P.d9k cN Tryz.func80 S.s_l01Cmp_ok
def ct_s_l01Trim:Ct:=⟨[PK.ro lI],false,[oR lI],S.a3t,[]⟩
theorem b4v:a0k Tryz.prog gl 107 ct_s_l01Trim:=VV mixed a2g [] [(1,[(0,dL)])] P.e4j cN Tryz.func107 S.e4k
def d6b:Ct:=⟨[PK.bo lI,PK.bo lI],false,[oR lI],S.a1i,[]⟩
theorem b3n:a0k Tryz.prog gl 77 d6b:=VV mixed a2g [] [(7,[(23,dI),(22,dI),(5,Sp.own (120) true aI),(6,dI),(0,Sp.dat true lI),(1,Sp.dat true lI),(7,dI),(18,dI),(17,dI)]),(3,[(18,dI),(17,dI),(1,Sp.dat true lI),(5,Sp.own (120) true aI),(0,Sp.dat true lI)])] P.c2k (a0b b4v cN) Tryz.func77 S.d5j
def e0x:Ct:=⟨[PK.bo KS,PK.bo KS],false,rB,S.a4e,[]⟩
theorem c8h:a0k Tryz.prog gl 47 e0x:=VV mixed a2g [] [] P.c5y (a0b b4a (a0b b3n cN)) Tryz.func47 S.d9l
def ct_s_l01Dec:Ct:=⟨[pI],false,[oR Kd.str],S.b7t,[]⟩
theorem v_s_l01Dec:a0k Tryz.prog gl 139 ct_s_l01Dec:=VV mixed a2g [] [(3,[(3,Sp.dat false (Kd.sl (Kd.int IntKind.u8))),(4,dI),(0,dI)])] P.d9m cN Tryz.func139 S.s_l01Dec_ok
def d3b:Ct:=⟨[PK.bo lI],false,[oR Kd.str],S.a3n,[]⟩
theorem c1u:a0k Tryz.prog gl 111 d3b:=VV mixed a2g [] [(5,[(4,dI),(0,Sp.dat true lI),(3,Sp.dat false Kd.str)])] P.b9r (a0b v_s_l01Dec cN) Tryz.func111 S.d1l
def ct_s_l01Fits:Ct:=⟨[PK.bo KS],false,rB,S.c3x,[]⟩
theorem v_s_l01Fits:a0k Tryz.prog gl 82 ct_s_l01Fits:=VV mixed a2g [] [] P.c3w (a0b c1u cN) Tryz.func82 S.e4n
def ct_s_l01Show:Ct:=⟨[PK.bo KS],false,[oR Kd.str],S.c3z,[]⟩
theorem v_s_l01Show:a0k Tryz.prog gl 83 ct_s_l01Show:=VV mixed a2g [] [] P.c3y (a0b b4a (a0b c1u cN)) Tryz.func83 S.e4o
def ct_s_l01Give:Ct:=⟨[PK.bo KS],true,[oR Kd.str,oR Kd.bool],S.b4t,[]⟩
theorem v_s_l01Give:a0k Tryz.prog gl 50 ct_s_l01Give:=VV mixed a2g [] [] P.d1m (a0b v_s_l01Fits (a0b v_s_l01Show cN)) Tryz.func50 S.e4p
def d3c:Ct:=⟨[PK.bo lS],true,[(false,[RC.own Kd.str]),oR Kd.bool],S.a8z,[]⟩
theorem d6c:a0k Tryz.prog gl 28 d3c:=VV mixed a2g [] [(3,[(11,dI),(10,dI),(0,Sp.dat true lS),(4,Sp.own (64) true Kd.str)])] P.b9s (a0b v_s_l01Give cN) Tryz.func28 S.d1n
def ct_s_l01Cut:Ct:=⟨[PK.ro Kd.str,PK.ro (Kd.int IntKind.u8)],false,[(false,[RC.own Kd.str])],S.a8f,[]⟩
theorem v_s_l01Cut:a0k Tryz.prog gl 125 ct_s_l01Cut:=VV mixed a2g [] [(4,[(7,dI),(0,Sp.dat false Kd.str),(1,Sp.dat false (Kd.int IntKind.u8)),(5,Sp.own (64) true Kd.str),(6,dI)])] P.d9n cN Tryz.func125 S.s_l01Cut_ok
def e0y:Ct:=⟨[PK.bo lI,pI],false,[oR aI],S.a1u,[]⟩
theorem c0f:a0k Tryz.prog gl 110 e0y:=VV mixed a2g [] [] P.b3u cN Tryz.func110 S.d9o
def e0z:Ct:=⟨[PK.bo lI],true,[oR aI,oR Kd.bool],S.a7g,[]⟩
theorem v_s_l01Small:a0k Tryz.prog gl 134 e0z:=VV mixed a2g [] [] P.c5z (a0b c0f cN) Tryz.func134 S.d9p
def c9k:Ct:=⟨[PK.bo lI,pI],false,[(false,[RC.own aI])],S.a2a,[]⟩
theorem d3d:a0k Tryz.prog gl 136 c9k:=VV mixed a2g [] [(4,[(16,dI),(15,dI),(14,Sp.dat true lI),(1,dI),(6,dI),(5,Sp.own (104) true aI)])] P.b7v cN Tryz.func136 S.c8y
def c9l:Ct:=⟨[PK.bo lI,pI],true,[oR lI,oR aI],S.a2r,[]⟩
theorem d3e:a0k Tryz.prog gl 135 c9l:=VV mixed a2g [] [(4,[(8,dI),(7,dI),(0,Sp.dat true lI),(6,Sp.own (96) true aI),(1,dI)])] P.b7w (a0b b4v cN) Tryz.func135 S.c8z
def d3f:Ct:=⟨[PK.mu aI,PK.bo lI,pI,pI],false,rB,S.a5f,[]⟩
theorem d6d:a0k Tryz.prog gl 137 d3f:=VV mixed a2g [] [(3,[(15,dI),(14,dI),(13,Sp.dat true lI),(0,Sp.own (0) false aI),(2,dI),(3,dI),(9,dI),(1,Sp.dat true lI)])] P.b5m cN Tryz.func137 S.d1o
def d3g:Ct:=⟨[PK.mu aI,PK.bo lI,pI],true,[],S.a5g,[]⟩
theorem d6e:a0k Tryz.prog gl 138 d3g:=VV mixed a2g [] [(2,[(12,dI),(11,dI),(10,Sp.dat true lI),(0,Sp.own (0) false aI),(2,dI),(6,dI),(1,Sp.dat true lI)])] P.b5n cN Tryz.func138 S.d1p
def d6f:Ct:=⟨[PK.bo lI,PK.bo lI],true,[oR lI,oR lI],S.a4n,[]⟩
theorem c4l:a0k Tryz.prog gl 109 d6f:=VV mixed a2g [] [(21,[(19,dI),(14,dL),(15,dI),(20,dI),(13,Sp.own (624) true aI),(17,dI),(16,Sp.own (744) true aI),(12,dI)]),(17,[(17,dI),(13,Sp.own (624) true aI),(15,dI),(14,dL),(16,Sp.own (744) true aI),(12,dI)])] P.c2m (a0b b4v (a0b d7w (a0b b4a (a0b v_s_l01Small (a0b d3d (a0b d3e (a0b d6d (a0b d6e cN)))))))) Tryz.func109 S.d5k
def ct_s_l01Gcd:Ct:=⟨[PK.ro lI,PK.ro lI],false,[oR lI],S.a3b,[]⟩
theorem d7y:a0k Tryz.prog gl 108 ct_s_l01Gcd:=VV mixed a2g [] [(1,[(1,dL),(0,dL)])] P.d9t (a0b c4l cN) Tryz.func108 S.s_l01Gcd_ok
def d3h:Ct:=⟨[PK.ro Kd.str],false,[oR lI],S.a0v,[]⟩
theorem d6g:a0k Tryz.prog gl 127 d3h:=VV mixed a2g [] [(10,[(7,dI),(4,dI),(6,dI),(0,Sp.dat false Kd.str),(3,Sp.own (64) true aI)]),(3,[(4,dI),(0,Sp.dat false Kd.str),(3,Sp.own (64) true aI)])] P.b9v (a0b b4v cN) Tryz.func127 S.d1y
def d6h:Ct:=⟨[PK.ro Kd.str],false,rB,S.a0z,[]⟩
theorem e1a:a0k Tryz.prog gl 126 d6h:=VV mixed a2g [] [(2,[(3,dI),(0,Sp.dat false Kd.str)])] P.c2n cN Tryz.func126 S.d5l
def e1b:Ct:=⟨[PK.ro Kd.str],true,[(true,[RC.ro KS]),oR Kd.bool],S.b3v,[]⟩
theorem v_s_l01Parse:a0k Tryz.prog gl 101 e1b:=VV mixed a2g [] [] P.c6c (a0b v_s_l01Cut (a0b b4a (a0b d7y (a0b d6g (a0b e1a cN))))) Tryz.func101 S.d9u
def ct_s_l01List:Ct:=⟨[PK.bo lT],true,[oR lS,oR Kd.bool],S.b6o,[]⟩
theorem v_s_l01List:a0k Tryz.prog gl 65 ct_s_l01List:=VV mixed a2g [] [(5,[(14,dI),(13,dI),(0,Sp.dat true lT),(4,Sp.own (88) true KS)])] P.d1z (a0b v_s_l01Parse cN) Tryz.func65 S.e5b
def d6i:Ct:=⟨[PK.bo lI,PK.bo lI],false,[oR lI],S.b1b,[]⟩
theorem e1c:a0k Tryz.prog gl 79 d6i:=VV mixed a2g [] [(4,[(7,dI),(0,Sp.dat true lI),(1,Sp.dat true lI),(6,dI),(5,Sp.own (72) true aI)])] P.c2o (a0b c0f cN) Tryz.func79 S.d5n
def d3i:Ct:=⟨[PK.bo lI,PK.bo lI],false,[oR lI],S.a6t,[]⟩
theorem d6j:a0k Tryz.prog gl 81 d3i:=VV mixed a2g [] [(4,[(12,dI),(11,dI),(0,Sp.dat true lI),(1,Sp.dat true lI),(6,dI),(5,Sp.own (72) true aI)])] P.b9w (a0b b4v (a0b c0f cN)) Tryz.func81 S.d2a
def ct_s_l01Make:Ct:=⟨[PK.ro Kd.bool,PK.ro lI,PK.ro lI],false,[(true,[RC.ro KS])],S.a5u,[]⟩
theorem c2r:a0k Tryz.prog gl 78 ct_s_l01Make:=VV mixed a2g [] [] P.d2b (a0b b4a (a0b c4l (a0b d7y cN))) Tryz.func78 S.s_l01Make_ok
def ct_s_l01Sum:Ct:=⟨[PK.bo KS,PK.bo KS],false,[(true,[RC.ro KS])],S.a4u,[]⟩
theorem c6y:a0k Tryz.prog gl 45 ct_s_l01Sum:=VV mixed a2g [] [] P.d9v (a0b b4a (a0b b3n (a0b e1c (a0b d6j (a0b c2r cN))))) Tryz.func45 S.s_l01Sum_ok
def e1d:Ct:=⟨[PK.bo lS],false,[(true,[RC.ro KS])],S.b3w,[]⟩
theorem v_s_l01Total:a0k Tryz.prog gl 103 e1d:=VV mixed a2g [] [(3,[(8,dI),(7,dI),(3,Sp.var (24) KS),(0,Sp.dat true lS),(2,Sp.var (16) KS)])] P.c6d (a0b c2q (a0b c6y cN)) Tryz.func103 S.d9w
def c9m:Ct:=⟨[PK.bo lS],false,rB,S.b0f,[]⟩
theorem d3j:a0k Tryz.prog gl 102 c9m:=VV mixed a2g [] [(2,[(6,dI),(5,dI),(0,Sp.dat true lS)])] P.b7z cN Tryz.func102 S.c9a
def d3k:Ct:=⟨[PK.bo lS],false,rB,S.a9a,[]⟩
theorem d6k:a0k Tryz.prog gl 66 d3k:=VV mixed a2g [] [] P.b9x (a0b c0z (a0b c8h (a0b v_s_l01Total (a0b d3j cN)))) Tryz.func66 S.d2c
def e1e:Ct:=⟨[PK.bo (Kd.pt (Kd.st mT))],true,[(true,[RC.ro (Kd.st mS)]),oR Kd.bool],S.b3x,[]⟩
theorem v_s_l03Parse:a0k Tryz.prog gl 26 e1e:=VV mixed a2g [] [(6,[(27,dI),(26,dI),(0,Sp.dat true (Kd.pt (Kd.st mT))),(4,dI),(2,Sp.var (16) (Kd.st mS)),(5,Sp.vow (40) (512) lS)])] P.c6e (a0b v_s_l01List (a0b d6k cN)) Tryz.func26 S.d9x
def ct_s_l00In:Ct:=⟨[pI,pI,pI],false,rB,S.c6f,[]⟩
theorem v_s_l00In:a0k Tryz.prog gl 75 ct_s_l00In:=VV mixed a2g [] [] P.d2d cN Tryz.func75 S.s_l00In_ok
def e1f:Ct:=⟨[PK.bo (Kd.pt (Kd.st mS)),pI],false,rB,S.b6p,[]⟩
theorem v_s_l03State:a0k Tryz.prog gl 43 e1f:=VV mixed a2g [] [] P.c0x (a0b v_s_l00In cN) Tryz.func43 S.d9y
def e1g:Ct:=⟨[PK.bo lI,pI,pI],false,rB,S.b3y,[]⟩
theorem v_s_l00Rises:a0k Tryz.prog gl 67 e1g:=VV mixed a2g [] [(2,[(7,dI),(0,Sp.dat true lI),(1,dI),(2,dI)])] P.c6g (a0b v_s_l00In cN) Tryz.func67 S.d9z
def d3l:Ct:=⟨[PK.bo (Kd.pt (Kd.st mS)),PK.bo lI],false,rB,S.b2k,[]⟩
theorem d6l:a0k Tryz.prog gl 27 d3l:=VV mixed a2g [] [] P.b5p (a0b v_s_l00Rises cN) Tryz.func27 S.d2e
def c9n:Ct:=⟨[pS],false,[(true,[RC.ro KS])],S.a2s,[]⟩
theorem c0g:a0k Tryz.prog gl 94 c9n:=VV mixed a2g [] [] P.b8a cN Tryz.func94 S.c9b
def e1h:Ct:=⟨[PK.bo KS,PK.bo KS],false,[(true,[RC.ro KS])],S.a7h,[]⟩
theorem c8i:a0k Tryz.prog gl 46 e1h:=VV mixed a2g [] [] P.c6h (a0b b3n (a0b c2r cN)) Tryz.func46 S.e0a
def ct_s_l01Zero:Ct:=⟨[PK.bo KS],false,rB,S.b0g,[]⟩
theorem d3m:a0k Tryz.prog gl 119 ct_s_l01Zero:=VV mixed a2g [] [] P.b9y cN Tryz.func119 S.s_l01Zero_ok
def e1i:Ct:=⟨[pS,pS],false,[(true,[RC.ro KS])],S.b1c,[]⟩
theorem v_s_l01Minus:a0k Tryz.prog gl 122 e1i:=VV mixed a2g [] [] P.d7n (a0b c0g (a0b c6y cN)) Tryz.func122 S.e0b
def ct_s_l01Over:Ct:=⟨[PK.bo KS,PK.bo KS],false,[(true,[RC.ro KS])],S.b2l,[]⟩
theorem v_s_l01Over:a0k Tryz.prog gl 121 ct_s_l01Over:=VV mixed a2g [] [] P.d2f (a0b b3n (a0b c2r cN)) Tryz.func121 S.s_l01Over_ok
def ct_s_l03Swap:Ct:=⟨[PK.mr KS,pI,pI],true,[],S.b6q,[]⟩
theorem v_s_l03Swap:a0k Tryz.prog gl 120 ct_s_l03Swap:=VV mixed a2g [] [] P.c4d cN Tryz.func120 S.s_l03Swap_ok
def e1j:Ct:=⟨[PK.mr KS],true,[oR lS,oR Kd.bool],S.b3z,[]⟩
theorem v_s_l03Solve:a0k Tryz.prog gl 95 e1j:=VV mixed a2g [] [(22,[(11,dI),(4,dI),(10,Sp.own (832) true KS),(0,Sp.rows (0) false KS)]),(17,[(9,dI),(4,dI),(0,Sp.rows (0) false KS),(7,dI),(8,Sp.var (64) KS),(5,dI)]),(12,[(7,dI),(4,dI),(5,dI),(0,Sp.rows (0) false KS)]),(6,[(6,dI),(4,dI),(0,Sp.rows (0) false KS),(5,dI)]),(3,[(5,dI),(4,dI),(0,Sp.rows (0) false KS)])] P.c6i (a0b d3m (a0b v_s_l01Minus (a0b c8i (a0b v_s_l01Over (a0b v_s_l03Swap cN))))) Tryz.func95 S.e0c
def e1k:Ct:=⟨[PK.pm (Kd.st mS),PK.bo lI,PK.ro lS,PK.ro lS],false,[oR lS],S.a6y,[]⟩
theorem c8j:a0k Tryz.prog gl 59 e1k:=VV mixed a2g [1000021,1000101] [(27,[(114,dI),(113,dI),(19,Sp.own (872) true KS),(1,Sp.dat true lI),(17,Sp.dat false lS)]),(17,[(71,dI),(70,dI),(1,Sp.dat true lI),(15,Sp.var (120) KS),(0,Sp.pm (Kd.st mS)),(11,dI),(3,Sp.dat false lS),(9,Sp.rows (168) true KS),(12,Sp.own (248) true KS),(24,dI),(23,dI),(2,Sp.dat false lS)]),(8,[(34,dI),(33,dI),(0,Sp.pm (Kd.st mS)),(11,dI),(1,Sp.dat true lI),(10,dI),(12,Sp.own (248) true KS),(2,Sp.dat false lS),(3,Sp.dat false lS),(9,Sp.rows (168) true KS),(24,dI),(23,dI)]),(3,[(24,dI),(23,dI),(1,Sp.dat true lI),(0,Sp.pm (Kd.st mS)),(2,Sp.dat false lS),(3,Sp.dat false lS),(9,Sp.rows (168) true KS)])] P.c5k (a0b b6s (a0b c0z (a0b c0g (a0b c6y (a0b c8i (a0b v_s_l03Solve cN)))))) Tryz.func59 S.d8n
def ct_s_l00Put:Ct:=⟨[PK.ro lI,pI],false,[oR lI],S.c0t,[]⟩
theorem v_s_l00Put:a0k Tryz.prog gl 128 ct_s_l00Put:=VV mixed a2g [] [(4,[(7,dI),(0,dL),(6,Sp.dat false Kd.bool),(1,dI),(5,Sp.own (64) true aI)])] P.d8o cN Tryz.func128 S.s_l00Put_ok
def e1l:Ct:=⟨[PK.bo (Kd.pt (Kd.st mS)),pI],false,[oR lI],S.b3r,[]⟩
theorem v_s_l03Reach:a0k Tryz.prog gl 104 e1l:=VV mixed a2g [] [(7,[(24,dI),(23,dI),(0,Sp.dat true (Kd.pt (Kd.st mS))),(5,Sp.own (80) true aI),(7,dI),(6,dL)]),(4,[(7,dI),(5,Sp.own (80) true aI),(0,Sp.dat true (Kd.pt (Kd.st mS))),(6,dL)])] P.c5l (a0b b6s (a0b v_s_l00Put (a0b d3m cN))) Tryz.func104 S.d8p
def e1m:Ct:=⟨[PK.bo (Kd.pt (Kd.st mS)),PK.bo lI],false,[oR lI],S.b3s,[]⟩
theorem v_s_l03Inner:a0k Tryz.prog gl 68 e1m:=VV mixed a2g [] [(8,[(26,dI),(25,dI),(1,Sp.dat true lI),(7,dL),(5,Sp.own (72) true aI),(6,dI),(15,dI),(14,dI),(0,Sp.dat true (Kd.pt (Kd.st mS)))]),(3,[(15,dI),(14,dI),(1,Sp.dat true lI),(0,Sp.dat true (Kd.pt (Kd.st mS))),(5,Sp.own (72) true aI)])] P.c5m (a0b b6s (a0b v_s_l03Reach cN)) Tryz.func68 S.d8q
def ct_s_l03Hits:Ct:=⟨[PK.pm (Kd.st mS),PK.bo lI],false,[oR lS],S.b6l,[]⟩
theorem v_s_l03Hits:a0k Tryz.prog gl 29 ct_s_l03Hits:=VV mixed a2g [] [(4,[(15,dI),(14,dI),(5,Sp.own (64) true KS),(1,Sp.dat true lI),(6,Sp.own (72) true KS),(0,Sp.pm (Kd.st mS))])] P.d0u (a0b b6s (a0b c0z (a0b c2q (a0b v_s_l03Inner (a0b c8j cN))))) Tryz.func29 S.e3s
def c6z:Ct:=⟨[PK.bo (Kd.st mT),pI,PK.bo lI],true,[(false,[RC.own Kd.str]),oR Kd.bool],S.a5y,[]⟩
theorem c9o:a0k Tryz.prog gl 23 c6z:=VV mixed a2g [] [(23,[(90,dI),(89,dI),(14,dI),(16,Sp.own (680) true KS),(17,Sp.own (688) true KS),(11,Sp.own (360) true aI),(8,Sp.var (64) mS),(1,dI),(15,Sp.var (120) KS),(13,Sp.own (552) true KS),(73,dI),(72,dI)]),(16,[(73,dI),(72,dI),(11,Sp.own (360) true aI),(1,dI),(8,Sp.var (64) mS),(13,Sp.own (552) true KS)]),(9,[(49,dI),(48,dI),(2,Sp.dat true lI),(10,Sp.dat false lS),(11,Sp.own (360) true aI),(8,Sp.var (64) mS),(1,dI)])] P.b5x (a0b b6s (a0b c0z (a0b c2q (a0b c8h (a0b d6c (a0b v_s_l03Parse (a0b v_s_l03State (a0b d6l (a0b c8j (a0b v_s_l03Hits cN)))))))))) Tryz.func23 S.c5n
def c4m:Ct:=⟨[PK.ro (Kd.int IntKind.u64),PK.ro (Kd.int IntKind.u64)],true,[oR (Kd.int IntKind.u64),oR (Kd.int IntKind.u64)],S.b4m,[]⟩
theorem c7a:a0k Tryz.prog gl 124 c4m:=VV mixed a2g [] [] P.b4l cN Tryz.func124 S.c3o
def c9p:Ct:=⟨[PK.ro (Kd.int IntKind.u64),PK.ro (Kd.int IntKind.u64)],true,[oR (Kd.int IntKind.u64),oR (Kd.int IntKind.u64)],S.a7a,[]⟩
theorem d3n:a0k Tryz.prog gl 96 c9p:=VV mixed a2g [] [] P.b7i (a0b c7a cN) Tryz.func96 S.c8q
def b2u:Ct:=⟨[PK.ro lR,pI],false,[(false,[RC.own KR])],S.a0j,[]⟩
theorem a3m:a0k Tryz.prog gl 60 b2u:=VV mixed a2g [] [(8,[(8,dI),(7,Sp.own (240) true KR)])] PP.a6l (a0b d3n cN) Tryz.func60 (fun x r h=>(S.b2p x r h).imp fun k hk=>(PP.b2g k x).trans hk)
def d6m:Ct:=⟨[pI],false,[oR (Kd.int IntKind.u64)],S.b4n,[]⟩
theorem e1n:a0k Tryz.prog gl 87 d6m:=VV mixed a2g [] [] P.c2a cN Tryz.func87 S.d4z
def e1o:Ct:=⟨[PK.ro lU],false,[oR lU],S.a3p,[]⟩
theorem a9c:a0k Tryz.prog gl 116 e1o:=VV mixed a2g [] [(1,[(0,Sp.dat false lU)])] P.d7i cN Tryz.func116 S.d8r
def ct_i_natOf:Ct:=⟨[PK.ro (Kd.int IntKind.u64)],false,[oR lU],S.a2v,[]⟩
theorem c0h:a0k Tryz.prog gl 86 ct_i_natOf:=VV mixed a2g [] [] P.i_natOf (a0b a9c cN) Tryz.func86 S.i_natOf_ok
def ct_i_whole:Ct:=⟨[pI],false,[(true,[RC.ro KR])],S.a2l,[]⟩
theorem b2n:a0k Tryz.prog gl 53 ct_i_whole:=VV mixed a2g [] [] P.i_whole (a0b e1n (a0b c0h cN)) Tryz.func53 S.i_whole_ok
def ct_i_nat_cmp:Ct:=⟨[PK.bo lU,PK.bo lU],false,[oR aI],S.a1m,[]⟩
theorem b8j:a0k Tryz.prog gl 89 ct_i_nat_cmp:=VV mixed a2g [] [(6,[(5,dI),(0,Sp.dat true lU),(1,Sp.dat true lU)])] P.d0v cN Tryz.func89 S.e3u
def ct_i_nat_mul:Ct:=⟨[PK.bo lU,PK.bo lU],false,[oR lU],S.a2n,[]⟩
theorem b8k:a0k Tryz.prog gl 90 ct_i_nat_mul:=VV mixed a2g [] [(7,[(26,dI),(25,dI),(24,Sp.dat true lU),(8,Sp.dat false (Kd.int IntKind.u64)),(7,Sp.dat false aU),(5,Sp.own (128) true aU),(6,dI),(1,Sp.dat true lU),(19,dI),(18,dI),(17,Sp.dat true lU)]),(3,[(19,dI),(18,dI),(17,Sp.dat true lU),(1,Sp.dat true lU),(5,Sp.own (128) true aU)])] P.d0w (a0b a9c cN) Tryz.func90 S.e3v
def e1p:Ct:=⟨[PK.bo KR],false,[oR aI],S.a0y,[]⟩
theorem a9d:a0k Tryz.prog gl 88 e1p:=VV mixed a2g [] [] P.c5o cN Tryz.func88 S.d8s
def ct_i_rat_cmp:Ct:=⟨[PK.bo KR,PK.bo KR],false,[oR aI],S.c3q,[]⟩
theorem v_i_rat_cmp:a0k Tryz.prog gl 74 ct_i_rat_cmp:=VV mixed a2g [] [] P.c3p (a0b b8j (a0b b8k (a0b a9d cN))) Tryz.func74 S.e3w
def d6n:Ct:=⟨[PK.bo KR],false,rB,S.a4k,[]⟩
theorem c4n:a0k Tryz.prog gl 41 d6n:=VV mixed a2g [] [] P.c2b (a0b b2n (a0b v_i_rat_cmp cN)) Tryz.func41 S.d5a
def c0i:Ct:=⟨[PK.ro (Kd.int IntKind.u64),pI],false,[oR Kd.str],S.a4g,[]⟩
set_option maxHeartbeats 6400000 in
set_option maxRecDepth 100000 in
open Go.Proofs Go.Shelf Go.RowKit Go.Sort Go.Lib in
theorem fu_small (i:Nat) (hi:i<100) (w:World):
  Calls Tryz.prog 146 #[.int .u64 i, .int .i64 10] w fun e w'=>e= .returned (.string ⟨(Lib.decDigits i).toArray⟩)/\w'=w:=by
 have eSm:∀args w,(callFunc 156 args).run Tryz.prog w= .ok (.enter 156 args) w:=Go.Proofs.enters_of Tryz.func156 (by kernel_rfl) rfl
 go_enter Tryz.func146,Tryz.ntmps146
 go_wp2_with (go_at_fn 156;refine(Tryz.internal_strconv_small i hi _).mono ?_;rintro e w' ⟨rfl,rfl⟩)
 go_ret
 exact⟨rfl,rfl⟩
set_option maxHeartbeats 12800000 in
set_option maxRecDepth 100000 in
open Go.Proofs Go.Shelf Go.RowKit Go.Sort Go.Lib in
theorem fu_big (u:Nat) (hu:100<=u) (hu64:u<18446744073709551616) (w:World)
  (htab:Lib.TabIs Tryz.prog w "internal/strconv.uint64pow10" .u64 Lib.pow10Tab):
  Calls Tryz.prog 146 #[.int .u64 u, .int .i64 10] w fun e w'=>e= .returned (.string ⟨(Lib.decDigits u).toArray⟩)/\∃k os,w'=grow (w.drewN k) os:=by
 have eNd:∀args w,(callFunc 157 args).run Tryz.prog w= .ok (.enter 157 args) w:=Go.Proofs.enters_of Tryz.func157 (by kernel_rfl) rfl;have eFb:∀args w,(callFunc 158 args).run Tryz.prog w= .ok (.enter 158 args) w:=Go.Proofs.enters_of Tryz.func158 (by kernel_rfl) rfl;have hu1:1<=u:=by omega
 have hnd20:Lib.nDigits u<=20:=by have:=Lib.numDigits_eq u hu1 hu64;split at this<;>omega
 have hal:Tryz.prog.arrayLen 192=24:=by simp [Program.arrayLen,Tryz.underlying192]
 have hsl:∀W,(Instr.sliceAt 192 (.pointer (some ⟨w.heap.size,0,none⟩)) none (some (.int .i64 (Lib.nDigits u:Int))) none).run Tryz.prog W= .ok (.slice (some ⟨w.heap.size,0,none⟩) (Lib.nDigits u) 24) W:=fun W=>by
  rw[run_sliceAt_array_h W 192 ⟨w.heap.size,0,none⟩ (by simp [Program.arrayLen,Program.elem,Tryz.underlying192]) .i64 (Lib.nDigits u:Int) (by omega) (by rw[hal];omega)]
  go_simp
 have hH0:=Lib.holds_zero0 w 192 (Lib.nDigits u) (by omega);have hfmt:=Tryz.internal_strconv_formatBase10 w.heap.size 0 24 u (Array.replicate (Lib.nDigits u) 0) (w.alloc (.cells Lib.zeros24 192)) hH0 (by rw[Array.size_replicate];exact Lib.lt_pow_nDigits u) hu64 (by rw[Array.size_replicate];omega);rw[Array.size_replicate]at hfmt;have HH0:=Lib.hid hH0;have iu:(100:Int)<=(u:Int):=by omega
 clear hH0 hal
 go_enter Tryz.func146,Tryz.ntmps146
 go_wp2_with (first
  |(go_at_fn 157;refine(Tryz.internal_strconv_numDigits u hu1 hu64 _ (Lib.tabIs_alloc htab _)).mono ?_;rintro e w' ⟨rfl,rfl⟩))
 go_at_fn 158
 refine hfmt.mono ?_
 rintro e w' ⟨rfl,k,v',dk,rfl,hF⟩
 have hcv:(convert 106 9 (.slice (some ⟨w.heap.size,0,none⟩) (Lib.nDigits u) 24)).run Tryz.prog ((putRow (fun(b:UInt8)=>Value.int .u8 (b.toNat:Int)) (w.alloc (.cells Lib.zeros24 192)) w.heap.size 0 dk).drewN k)= .ok (.string ⟨(Lib.decDigits u).toArray⟩) ((putRow (fun(b:UInt8)=>Value.int .u8 (b.toNat:Int)) (w.alloc (.cells Lib.zeros24 192)) w.heap.size 0 dk).drewN k):=by
  have h:=run_convert_bytes_back (P:=Tryz.prog) ((putRow (fun(b:UInt8)=>Value.int .u8 (b.toNat:Int)) (w.alloc (.cells Lib.zeros24 192)) w.heap.size 0 dk).drewN k) 106 9 5 ⟨w.heap.size,0,none⟩ 24 (Lib.decDigits u) Tryz.underlying106 Tryz.underlying5 Tryz.underlying9 (fun j hj=>by
   rw[Lib.row_is_numeral hF j hj,Lib.add_plain,World.cell?_drewN];exact cell?_putRow (fun(b:UInt8)=>Value.int .u8 (b.toNat:Int)) _ w.heap.size 0 _ dk HH0.out (by rw[hF.size,Array.size_replicate]) j (by rw[hF.size];rw[Lib.decDigits_length]at hj;exact hj))
  rw[Lib.decDigits_length]at h;exact h
 go_wp2
 go_ret
 obtain⟨os,eo⟩:=Lib.fin_at w (.cells Lib.zeros24 192) dk k 0;exact⟨rfl,k,os,eo⟩
set_option maxRecDepth 100000 in
open Go.Proofs Go.Shelf Go.RowKit Go.Sort Go.Lib in
theorem fu_pub (n:Nat) (h:n<18446744073709551616) (w:World)
  (htab:Lib.TabIs Tryz.prog w "internal/strconv.uint64pow10" .u64 Lib.pow10Tab):
  Calls Tryz.prog 130 #[.int .u64 n, .int .i64 10] w fun e w'=>e= .returned (.string ⟨(Lib.decDigits n).toArray⟩)/\∃k os,w'=grow (w.drewN k) os:=by
 have eFu:∀args w,(callFunc 146 args).run Tryz.prog w= .ok (.enter 146 args) w:=Go.Proofs.enters_of Tryz.func146 (by kernel_rfl) rfl;have hin:Calls Tryz.prog 146 #[.int .u64 n, .int .i64 10] w fun e w'=>e= .returned (.string ⟨(Lib.decDigits n).toArray⟩)/\∃k os,w'=grow (w.drewN k) os:=by
  by_cases h1:n<100
  ·refine(fu_small n h1 w).mono ?_
   rintro e w' ⟨rfl,rfl⟩
   exact⟨rfl,0, #[],by simp [World.drewN_zero]⟩
  ·exact fu_big n (by omega) h w htab
 go_enter Tryz.func130,Tryz.ntmps130
 go_wp2_with (go_at_fn 146;refine hin.mono ?_;rintro e w' ⟨rfl,k,os,rfl⟩)
 go_ret
 exact⟨rfl,k,os,rfl⟩
theorem belowGrowU (w:World) (k:Nat) (os:Array Obj):Below w.heap.size w (Go.Sort.grow (w.drewN k) os):=⟨rfl,rfl,rfl,by simp [Go.Sort.grow,World.drewN],fun b hb=>by simp [Go.Sort.grow,World.drewN,Array.getElem?_append_left hb]⟩
theorem c1n (hP:InP gl):a0k Tryz.prog gl 130 c0i:=by
 refine b4u (enters_of Tryz.func130 (by kernel_rfl) (by kernel_rfl)) (fun _ _ _ _ _ _=>trivial) (fun w M0 W0 us x γ hl hW ha r hr=> ?_);obtain⟨n,b,q⟩:=x;obtain⟨u1,_,rfl,⟨c1,h1,h1'⟩,u2,_,rfl,⟨c2,h2,h2'⟩,rfl⟩:=ha;cases h1';cases h2';subst h1;subst h2;unfold S.a4g at hr;split at hr
 case isFalse=>cases hr
 rename_i hc;obtain⟨hb,h0,h3⟩:=hc;cases hr;dsimp only at hb h0 h3;subst hb;obtain⟨m,rfl⟩:∃m:Nat,n=(m:Int):=⟨n.toNat,(Int.toNat_of_nonneg h0).symm⟩
 rw[Int.toNat_natCast];have htab:Lib.TabIs Tryz.prog w "internal/strconv.uint64pow10" .u64 Lib.pow10Tab:=e0q hl hP (by kernel_rfl);refine(fu_pub m (by omega) w htab).mono ?_
 rintro e w' ⟨rfl,k,os,rfl⟩
 exact⟨[_],rfl,belowGrowU _ _ _,fun M'=>⟨[_],rfl,fun _=>rfl,rfl⟩⟩
def d3o:Ct:=⟨[PK.bo lT,PK.ro Kd.str],false,[oR Kd.str],S.b2i,[]⟩
theorem d6o:a0k Tryz.prog gl 133 d3o:=by
 refine b4u (enters_of Tryz.func133 (by kernel_rfl) (by kernel_rfl)) (fun _ _ _ _ _ _=>trivial) (fun w M0 W0 us x γ hl hW ha r hr=> ?_);obtain⟨xs,sep,q⟩:=x;obtain⟨u1,_,rfl,⟨c1,h1,h1'⟩,u2,_,rfl,⟨c2,h2,h2'⟩,rfl⟩:=ha;cases h2';subst h2;obtain⟨A,c,rfl,hlc,hel⟩:=h1';subst h1;unfold S.b2i at hr;split at hr
 case isFalse=>cases hr
 rename_i hc;obtain⟨hn,hj⟩:=hc;cases hr;dsimp only at hn hj
 by_cases h0:xs.length=0
 ·have:xs=[]:=List.eq_nil_of_length_eq_zero h0;subst this;refine(Tryz.strings_Join_none A c sep w).mono ?_
  rintro e w' ⟨rfl,rfl⟩
  exact⟨[_],rfl,Below.refl _ _,fun M'=>⟨[_],rfl,fun _=>rfl,rfl⟩⟩
 ·obtain⟨b,o,rfl,hcell⟩:=hel h0;have hcells:∀(j:Nat) x,xs[j]? =some x->w.cell? ⟨b,o+j,none⟩=some (.string x):=by
   intro j x hx;obtain⟨es,e1,e2⟩:=hcell j x hx;cases e1;have:=(e2 0 _ rfl).1;simpa [Kd.sz]using this
  have hbk:b<w.heap.size:=by
   have:=hcells 0 xs[0] (List.getElem?_eq_getElem (by omega));exact World.block_lt_of_cell? _ _ this
  refine(Tryz.strings_Join b o c xs sep w hcells hbk hn hlc hj).mono ?_
  rintro e w' ⟨rfl,hbl⟩
  exact⟨[_],rfl,hbl,fun M'=>⟨[_],rfl,fun _=>rfl,rfl⟩⟩
def c7b:Ct:=⟨[PK.ro Kd.str,pI],false,[oR Kd.str],S.a7p,[]⟩
theorem c9q:a0k Tryz.prog gl 131 c7b:=by
 refine b4u (enters_of Tryz.func131 (by kernel_rfl) (by kernel_rfl)) (fun _ _ _ _ _ _=>trivial) (fun w M0 W0 us x γ hl hW ha r hr=> ?_);obtain⟨s,c,q⟩:=x;obtain⟨u1,_,rfl,⟨c1,h1,h1'⟩,u2,_,rfl,⟨c2,h2,h2'⟩,rfl⟩:=ha;cases h1';cases h2';subst h1;subst h2;unfold S.a7p at hr;split at hr
 case isFalse=>cases hr
 rename_i hc;obtain⟨g0,g1,g2⟩:=hc;dsimp only at g0 g1 g2 hr;cases hr;obtain⟨n,rfl⟩:∃n:Nat,c=(n:Int):=⟨c.toNat,(Int.toNat_of_nonneg g0).symm⟩
 have hm:s.size*n<=1000000*1000000:=Nat.mul_le_mul g2 (by omega);refine(Tryz.strings_Repeat s n w (by omega) (by omega)).mono ?_
 rintro e w' ⟨rfl,hb⟩
 exact⟨[_],rfl,hb,fun M'=>⟨[_],rfl,fun _=>rfl,rfl⟩⟩
def b0n:Ct:=⟨[PK.mu Kd.str],true,[],S.a1b,[]⟩
theorem b1e:a0k Tryz.prog gl 132 b0n:=VV mixed a2g [] [(1,[(2,dI),(3,dI),(0,Sp.own (0) false Kd.str)])] P.a3e cN Tryz.func132 S.b0m
def c7c:Ct:=⟨[PK.bo lU,PK.ro aU],true,[oR lU,oR aU],S.a2p,[]⟩
theorem b8y:a0k Tryz.prog gl 129 c7c:=VV mixed a2g [] [(3,[(8,dI),(7,Sp.dat false (Kd.int IntKind.u64)),(0,Sp.dat true lU),(6,Sp.own (88) true aU),(1,Sp.dat false aU)])] P.b5y (a0b a9c cN) Tryz.func129 S.c5q
def e1q:Ct:=⟨[PK.bo lU],false,[oR Kd.str],S.b0v,[]⟩
theorem v_i_nat_text (hP:InP gl):a0k Tryz.prog gl 105 e1q:=VV mixed a2g [] [(4,[(0,Sp.dat true lU),(3,Sp.own (80) true Kd.str)])] P.c5r (a0b (c1n hP) (a0b d6o (a0b c9q (a0b b1e (a0b b8y cN))))) Tryz.func105 S.d8u
def e1r:Ct:=⟨[PK.bo KR],true,[oR Kd.str,oR Kd.bool],S.b0w,[]⟩
theorem v_i_rat_text (hP:InP gl):a0k Tryz.prog gl 71 e1r:=VV mixed a2g [] [] P.c5s (a0b (v_i_nat_text hP) cN) Tryz.func71 S.d8v
def e1s:Ct:=⟨[PK.bo lR],true,[(false,[RC.own Kd.str]),oR Kd.bool],S.b0x,[]⟩
theorem v_i_toldList (hP:InP gl):a0k Tryz.prog gl 33 e1s:=VV mixed a2g [] [(3,[(12,dI),(11,dI),(10,Sp.dat true lR),(4,Sp.own (72) true Kd.str)])] P.c5t (a0b (v_i_rat_text hP) cN) Tryz.func33 S.d8w
def ct_i_in:Ct:=⟨[pI,pI,pI],false,rB,S.i_in,[]⟩
theorem v_i_in:a0k Tryz.prog gl 85 ct_i_in:=VV mixed a2g [] [] P.i_in cN Tryz.func85 S.i_in_ok
def ct_i_isState:Ct:=⟨[PK.bo mR,pI],false,rB,S.b4o,[]⟩
theorem d3p:a0k Tryz.prog gl 52 ct_i_isState:=VV mixed a2g [] [] P.b9k (a0b v_i_in cN) Tryz.func52 S.e3y
def d6p:Ct:=⟨[pR],false,[(true,[RC.ro KR])],S.a3r,[]⟩
theorem c4o:a0k Tryz.prog gl 100 d6p:=VV mixed a2g [] [] P.c2c cN Tryz.func100 S.d5b
def ct_i_nat_sub:Ct:=⟨[PK.bo lU,PK.bo lU],false,[oR lU],S.a9q,[]⟩
theorem v_i_nat_sub:a0k Tryz.prog gl 93 ct_i_nat_sub:=VV mixed a2g [] [(3,[(14,dI),(13,dI),(0,Sp.dat true lU),(6,dI),(1,Sp.dat true lU),(5,Sp.own (88) true aU)])] P.d0x (a0b a9c cN) Tryz.func93 S.e3z
def ct_i_nat_add:Ct:=⟨[PK.bo lU,PK.bo lU],false,[oR lU],S.a9r,[]⟩
theorem d3q:a0k Tryz.prog gl 92 ct_i_nat_add:=VV mixed a2g [] [(5,[(21,dI),(20,dI),(6,Sp.dat false (Kd.int IntKind.u64)),(0,Sp.dat true lU),(1,Sp.dat true lU),(5,Sp.own (144) true aU)])] P.c3r (a0b a9c cN) Tryz.func92 S.e4a
def b4w:Ct:=⟨[PK.ro aU],false,[oR aI],S.a3a,[]⟩
theorem b5c:a0k Tryz.prog gl 143 b4w:=by
 refine b4u (enters_of Tryz.func143 (by kernel_rfl) (by kernel_rfl)) (fun _ _ _ _ _ _=>trivial) (fun w M0 W0 us x γ hl hW ha r hr=> ?_);obtain⟨n,q⟩:=x;obtain⟨u1,_,rfl,⟨c1,h1,h1'⟩,rfl⟩:=ha;cases h1';subst h1;unfold S.a3a at hr;split at hr
 case isFalse=>cases hr
 rename_i hc;cases hr;refine(Tryz.bits_LeadingZeros32 n w hc.1 hc.2).mono ?_
 rintro e w' ⟨rfl,rfl⟩
 exact⟨[_],rfl,Below.refl _ _,fun M'=>⟨[_],rfl,fun _=>rfl,rfl⟩⟩
def c9r:Ct:=⟨[PK.bo lU,pI],false,[(false,[RC.own aU])],S.a3j,[]⟩
theorem d3r:a0k Tryz.prog gl 144 c9r:=VV mixed a2g [] [(3,[(15,dI),(14,dI),(13,Sp.dat true lU),(1,dI),(5,Sp.own (96) true aU)])] P.b7l cN Tryz.func144 S.c8r
def e1t:Ct:=⟨[PK.mu aU,PK.bo lU,PK.ro (Kd.int IntKind.u64)],false,rB,S.a8w,[]⟩
theorem v_i_takeAway:a0k Tryz.prog gl 145 e1t:=VV mixed a2g [] [(18,[(59,dI),(58,dI),(7,Sp.dat false (Kd.int IntKind.u64)),(0,Sp.own (0) false aU),(1,Sp.dat true lU)]),(3,[(14,dI),(13,dI),(1,Sp.dat true lU),(7,Sp.dat false (Kd.int IntKind.u64)),(2,Sp.dat false (Kd.int IntKind.u64)),(0,Sp.own (0) false aU),(8,dI)])] P.c5u cN Tryz.func145 S.d8x
def ct_i_nat_div:Ct:=⟨[PK.ro lU,PK.ro lU],true,[oR lU,oR lU],S.a4v,[]⟩
theorem trimN_snoc (xs:List Int) (x:Int):c5g (xs++[x])=if x=0 then c5g xs else xs.length+1:=by
 unfold c5g;rw[List.reverse_append]
 by_cases h:x=0
 ·simp [h]
 ·simp [h]
theorem trimN_le (xs:List Int):c5g xs<=xs.length:=by
 unfold c5g;have:=(List.dropWhile_sublist (fun x:Int=>x==0) (l:=xs.reverse)).length_le;simpa using this
def lenOfV:Value->Nat
 | .slice _ m _=>m
 |_=>0
set_option maxHeartbeats 800000 in
set_option maxRecDepth 100000 in
theorem trim_calls (b o real:Nat) (xs:List Int) (w:World) (hle:xs.length<=real) (hbig:xs.length<=1000000000000) (hc:∀(i:Nat) (x:Int),xs[i]? =some x->w.cell? ⟨b,o+i,none⟩=some (.int .u32 x)):
  Calls Tryz.prog 116 #[.slice (some ⟨b,o,none⟩) xs.length real] w fun e w'=>e= .returned (.slice (some ⟨b,o,none⟩) (c5g xs) real)/\w'=w:=by
 go_enter Tryz.func116,Tryz.ntmps116
 go_wp2
 go_loopw [0] (fun v wr=>∃m:Nat,m<=xs.length/\v= .slice (some ⟨b,o,none⟩) m real/\wr=w/\c5g (xs.take m)=c5g xs) (fun v _=>lenOfV v)
 case atStart=>exact⟨xs.length,Nat.le_refl _,rfl,rfl,by rw[List.take_length]⟩
 case round=>
  obtain⟨m,hm,rfl,rfl,ht⟩:=hrel
  by_cases h0:0<m
  ·obtain⟨k,rfl⟩:∃k,m=k+1:=⟨m - 1,by omega⟩
   have hx:xs[k]? =some xs[k]:=List.getElem?_eq_getElem (by omega);have hcx:=hc k _ hx;have hw:wrap64 (((k+1:Nat):Int) - 1)=(k:Int):=by
    have e:((k+1:Nat):Int) - 1=(k:Int):=by omega
    rw[e];exact IntWalk.wrap64_in _ (by omega)
   have ht':c5g (xs.take (k+1))=if xs[k]=0 then c5g (xs.take k)else k+1:=by
    rw[<-List.take_append_getElem (show k<xs.length by omega),trimN_snoc];have:(xs.take k).length=k:=by simp;omega
    rw[this]
   go_wp2
   ·have hz:(xs[k]==0)=true:=by assumption
    have hz':xs[k]=0:=by simpa using hz
    rw[if_pos hz']at ht';exact⟨⟨k,by omega,rfl,trivial,by rw[<-ht',ht]⟩,Nat.lt_succ_self k⟩
   ·have hz:(xs[k]==0)=false:=by assumption
    have hz':¬xs[k]=0:=by simpa using hz
    rw[if_neg hz']at ht';rw[<-ht,ht']
    go_ret
    exact⟨rfl,rfl⟩
  ·have h1:m=0:=by omega
   subst h1
   go_wp2
   have h2:c5g xs=0:=by rw[<-ht];rfl
   rw[h2]
   go_ret
   exact⟨rfl,rfl⟩
set_option maxHeartbeats 800000 in
set_option maxRecDepth 100000 in
theorem trim_calls0 (A:Option Addr) (real:Nat) (w:World):
  Calls Tryz.prog 116 #[.slice A 0 real] w fun e w'=>e= .returned (.slice A 0 real)/\w'=w:=by
 go_enter Tryz.func116,Tryz.ntmps116
 go_wp2
 refine wp_loop_rounds 1 ?_;rw[rounds_succ]
 go_wp2
 go_ret
 exact⟨rfl,rfl⟩
theorem shr_trim:ShrOk Tryz.prog 116 IntKind.u32 c5g:=by
 refine⟨enters_of Tryz.func116 (by kernel_rfl) (by kernel_rfl),fun w u xs A real hbig hsl hno hc=> ?_⟩;obtain⟨A',rfl,hle,hA⟩:=hsl;rcases Nat.eq_zero_or_pos real with h0|h0
 ·have h1:xs=[]:=List.eq_nil_of_length_eq_zero (by omega);subst h1;refine(trim_calls0 A' real w).mono ?_
  rintro e w' ⟨rfl,rfl⟩
  exact⟨rfl,Nat.le_refl _,_,rfl,rfl,A',rfl,Nat.zero_le _,fun h=>by omega⟩
 ·obtain⟨b,o,rfl,rfl⟩:=hA h0;refine(trim_calls b o real xs w hle hbig (hc b o rfl)).mono ?_
  rintro e w' ⟨rfl,rfl⟩
  have:=trimN_le xs;exact⟨rfl,this,_,rfl,rfl,_,rfl,by omega,fun _=>⟨b,o,rfl,rfl⟩⟩
theorem d3s:a0k Tryz.prog gl 118 ct_i_nat_div:=VV mixed a2g [] [(26,[(148,dI),(147,dI),(9,Sp.own (400) true aU),(8,dI),(13,Sp.own (592) true aU)]),(17,[(17,Sp.dat false (Kd.int IntKind.u64)),(12,Sp.dat false (Kd.int IntKind.u64)),(18,Sp.dat false (Kd.int IntKind.u64)),(9,Sp.own (400) true aU),(15,dI),(11,Sp.dat false (Kd.int IntKind.u64)),(14,dI),(10,Sp.dat false lU),(13,Sp.own (592) true aU),(8,dI)]),(12,[(14,dI),(10,Sp.dat false lU),(9,Sp.own (400) true aU),(11,Sp.dat false (Kd.int IntKind.u64)),(12,Sp.dat false (Kd.int IntKind.u64)),(13,Sp.own (592) true aU),(8,dI)])] P.d0i (a0b b5c (a0b a9c (a0b b8j (a0b b8y (a0b d3r (a0b v_i_takeAway (ctsShr (s:=(IntKind.u32,c5g)) shr_trim))))))) Tryz.func118 S.e3a
def d6q:Ct:=⟨[PK.bo lU],true,[oR (Kd.int IntKind.u64),oR Kd.bool],S.a5j,[]⟩
theorem e1u:a0k Tryz.prog gl 142 d6q:=VV mixed a2g [] [(3,[(5,dI),(0,Sp.dat true lU),(4,Sp.dat false (Kd.int IntKind.u64))])] P.b7f cN Tryz.func142 S.d4u
def ct_i_nat_gcd:Ct:=⟨[PK.ro lU,PK.ro lU],false,[oR lU],S.a5s,[]⟩
theorem d3t:a0k Tryz.prog gl 117 ct_i_nat_gcd:=VV mixed a2g [] [(5,[(7,Sp.dat false (Kd.int IntKind.u64)),(5,Sp.dat false (Kd.int IntKind.u64))]),(1,[(1,Sp.dat false lU),(0,Sp.dat false lU)])] P.d0j (a0b c0h (a0b e1u (a0b d3s cN))) Tryz.func117 S.e3c
def ct_i_lowest:Ct:=⟨[PK.ro Kd.bool,PK.ro lU,PK.ro lU],false,[(true,[RC.ro KR])],S.a5k,[]⟩
theorem d7z:a0k Tryz.prog gl 91 ct_i_lowest:=VV mixed a2g [] [] P.d8i (a0b c0h (a0b d3s (a0b d3t cN))) Tryz.func91 S.i_lowest_ok
def ct_i_rat_add:Ct:=⟨[pR,pR],false,[(true,[RC.ro KR])],S.a1l,[]⟩
theorem b4x:a0k Tryz.prog gl 54 ct_i_rat_add:=VV mixed a2g [] [] P.d0k (a0b b8j (a0b v_i_nat_sub (a0b d3q (a0b b8k (a0b d7z (a0b a9d cN)))))) Tryz.func54 S.e3d
def ct_i_lessOne:Ct:=⟨[PK.ro mR,PK.bo lI,PK.ro Kd.bool],false,[(false,[RC.rows KR])],S.a9j,[]⟩
theorem d3u:a0k Tryz.prog gl 63 ct_i_lessOne:=VV mixed a2g [1000014,1000058] [(7,[(24,dI),(23,dI),(22,Sp.dat true lI),(0,Sp.dat false mR),(9,dI),(2,Sp.dat false Kd.bool),(10,Sp.own (168) true KR),(7,Sp.rows (112) true KR),(17,dI),(16,dI),(15,Sp.dat true lI),(1,Sp.dat true lI)]),(3,[(17,dI),(16,dI),(15,Sp.dat true lI),(1,Sp.dat true lI),(0,Sp.dat false mR),(2,Sp.dat false Kd.bool),(7,Sp.rows (112) true KR)])] P.d0l (a0b b2n (a0b c4o (a0b b4x cN))) Tryz.func63 S.e3e
def ct_i_rat_sub:Ct:=⟨[pR,pR],false,[(true,[RC.ro KR])],S.a9k,[]⟩
theorem v_i_rat_sub:a0k Tryz.prog gl 99 ct_i_rat_sub:=VV mixed a2g [] [] P.e3f (a0b c4o (a0b b4x cN)) Tryz.func99 S.e3g
def ct_i_rat_mul:Ct:=⟨[pR,pR],false,[(true,[RC.ro KR])],S.a4w,[]⟩
theorem d3v:a0k Tryz.prog gl 55 ct_i_rat_mul:=VV mixed a2g [] [] P.d0m (a0b b8k (a0b d7z (a0b b2n (a0b a9d cN)))) Tryz.func55 S.e3h
def e1v:Ct:=⟨[pR,pR],false,[(true,[RC.ro KR])],S.a8s,[]⟩
theorem v_i_rat_over:a0k Tryz.prog gl 98 e1v:=VV mixed a2g [] [] P.d7d (a0b d3v cN) Tryz.func98 S.d8j
def ct_i_solve:Ct:=⟨[PK.mr KR,PK.mu KR],true,[(false,[RC.al (1) KR]),oR Kd.bool],S.b7g,[]⟩
theorem v_i_solve:a0k Tryz.prog gl 62 ct_i_solve:=VV mixed a2g [] [(26,[(13,dI),(6,dI),(1,Sp.own (8) false KR),(12,dI),(0,Sp.rows (0) false KR)]),(23,[(12,dI),(6,dI),(1,Sp.own (8) false KR),(0,Sp.rows (0) false KR)]),(17,[(11,dI),(6,dI),(0,Sp.rows (0) false KR),(9,dI),(10,Sp.var (80) KR),(7,dI),(1,Sp.own (8) false KR),(17,dI),(16,dI)]),(12,[(9,dI),(6,dI),(0,Sp.rows (0) false KR),(7,dI),(1,Sp.own (8) false KR),(17,dI),(16,dI)]),(6,[(8,dI),(6,dI),(0,Sp.rows (0) false KR),(7,dI),(1,Sp.own (8) false KR),(17,dI),(16,dI)]),(3,[(17,dI),(16,dI),(6,dI),(0,Sp.rows (0) false KR),(1,Sp.own (8) false KR)])] P.i_solve (a0b a9d (a0b v_i_rat_sub (a0b d3v (a0b v_i_rat_over cN)))) Tryz.func62 S.i_solve_ok
def ct_i_reach:Ct:=⟨[PK.bo mR,pI],false,[(false,[RC.own Kd.bool])],S.b7h,[]⟩
theorem v_i_reach:a0k Tryz.prog gl 56 ct_i_reach:=VV mixed a2g [] [(7,[(29,dI),(28,dI),(27,Sp.dat true lR),(5,Sp.own (88) true Kd.bool),(6,Sp.own (128) true aI),(0,Sp.dat true mR)]),(4,[(6,Sp.own (128) true aI),(0,Sp.dat true mR),(5,Sp.own (88) true Kd.bool)])] P.i_reach (a0b a9d cN) Tryz.func56 S.i_reach_ok
def ct_i_hits:Ct:=⟨[PK.ro mR,PK.bo (Kd.sl Kd.bool)],false,[oR lR],S.d7e,[]⟩
theorem v_i_hits:a0k Tryz.prog gl 34 ct_i_hits:=VV mixed a2g [] [(21,[(93,dI),(92,dI),(91,dL),(5,Sp.own (168) true KR),(13,Sp.dat false lR)]),(10,[(43,dI),(42,dI),(10,Sp.dat false Kd.bool),(9,Sp.dat false (Kd.sl Kd.bool)),(1,Sp.dat true (Kd.sl Kd.bool)),(11,Sp.var (88) KR),(0,Sp.dat false mR),(8,dI),(6,Sp.own (176) true aI),(7,Sp.own (184) true KR),(26,dI),(25,dI),(5,Sp.own (168) true KR)]),(3,[(26,dI),(25,dI),(1,Sp.dat true (Kd.sl Kd.bool)),(5,Sp.own (168) true KR),(0,Sp.dat false mR),(6,Sp.own (176) true aI),(7,Sp.own (184) true KR)])] P.i_hits (a0b a3m (a0b b2n (a0b b4x (a0b v_i_reach (a0b d3u (a0b v_i_solve cN)))))) Tryz.func34 S.i_hits_ok
def d6r:Ct:=⟨[PK.ro Kd.str,PK.ro Kd.str],true,[oR Kd.str,oR Kd.str,oR Kd.bool],S.b4i,[]⟩
theorem e1w (hM:InM gl):a0k Tryz.prog gl 152 d6r:=by
 refine b4u (enters_of Tryz.func152 (by kernel_rfl) (by kernel_rfl)) (fun _ _ _ _ _ _=>trivial) (fun w M0 W0 us x γ hl hW ha r hr=> ?_);obtain⟨s,b,q⟩:=x;obtain⟨u1,_,rfl,⟨c1,h1,h1'⟩,u2,_,rfl,⟨c2,h2,h2'⟩,rfl⟩:=ha;cases h1';cases h2';subst h1;subst h2;unfold S.b4i at hr;split at hr
 case isFalse=>cases hr
 rename_i hc;cases hr;obtain⟨m,hm⟩:=hM;refine(Tryz.strings_Cut s b m w hc (laid_cell hl hm)).mono ?_
 rintro e w' ⟨rfl,n,rfl⟩
 exact⟨[_,_,_],rfl,⟨rfl,rfl,rfl,Nat.le_refl _,fun _ _=>rfl⟩,fun M'=>⟨[_],[_,_],rfl,fun _=>rfl,rfl,[_],[_],rfl,fun _=>rfl,rfl,[_],rfl,fun _=>rfl,rfl⟩⟩
def c1o:Ct:=⟨[PK.ro Kd.str,PK.ro Kd.str],true,[oR Kd.str,oR Kd.bool],S.a6x,[]⟩
theorem c2s:a0k Tryz.prog gl 153 c1o:=by
 refine b4u (enters_of Tryz.func153 (by kernel_rfl) (by kernel_rfl)) (fun _ _ _ _ _ _=>trivial) (fun w M0 W0 us x γ hl hW ha r hr=> ?_);obtain⟨s,b,q⟩:=x;obtain⟨u1,_,rfl,⟨c1,h1,h1'⟩,u2,_,rfl,⟨c2,h2,h2'⟩,rfl⟩:=ha;cases h1';cases h2';subst h1;subst h2;cases hr;refine(Tryz.strings_CutPrefix s b w).mono ?_
 rintro e w' ⟨rfl,rfl⟩
 exact⟨[_,_],rfl,Below.refl _ _,fun M'=>⟨[_],[_],rfl,fun _=>rfl,rfl,[_],rfl,fun _=>rfl,rfl⟩⟩
def c1p:Ct:=⟨[PK.ro Kd.str,pI,pI],true,[oR (Kd.int IntKind.u64),oR Kd.er],S.a3o,[]⟩
theorem c2t (hR:InR gl) (hS:InS gl):a0k Tryz.prog gl 165 c1p:=by
 refine b4u (enters_of Tryz.func165 (by kernel_rfl) (by kernel_rfl)) (fun _ _ _ _ _ _=>trivial) (fun w M0 W0 us x γ hl hW ha r hr=> ?_);obtain⟨s,b,z,q⟩:=x;obtain⟨u1,_,rfl,⟨c1,h1,h1'⟩,u2,_,rfl,⟨c2,h2,h2'⟩,u3,_,rfl,⟨c3,h3,h3'⟩,rfl⟩:=ha;cases h1';cases h2';cases h3';subst h1;subst h2;subst h3;unfold S.a3o at hr;split at hr
 case isFalse=>cases hr
 rename_i hc;obtain⟨hb,hz,hs⟩:=hc;dsimp only at hb hz hs hr;subst hb;subst hz;obtain⟨t1,p1,hS⟩:=hS;obtain⟨t2,p2,hR⟩:=hR;have v1:w.var? Tryz.prog "strconv.ErrSyntax" =some #[.iface t1 p1]:=e0q hl hS (by kernel_rfl);have v2:w.var? Tryz.prog "strconv.ErrRange" =some #[.iface t2 p2]:=e0q hl hR (by kernel_rfl);split at hr
 ·rename_i v hv;cases hr;refine(Tryz.strconv_ParseUint_10_at64_ok s (by omega) v hv w).mono ?_
  rintro e w' ⟨rfl,hw⟩
  refine⟨[_,_],rfl,?_,fun M'=>⟨[_],[_],rfl,fun _=>rfl,rfl,[_],rfl,fun _=>rfl,_,rfl,rfl,rfl⟩⟩;rcases hw with rfl|⟨t,rfl⟩
  ·exact Below.refl _ _
  ·exact⟨rfl,rfl,rfl,by rw[Lib.bytesWorld_size];omega,fun k hk=>Lib.bytesWorld_at_old _ _ _ k (by omega)⟩
 ·rename_i hv;cases hr;refine(Tryz.strconv_ParseUint_10_at64_syntax_var s hs hv t1 p1 w v1).mono ?_
  rintro e w' ⟨N,rfl,_,_,hbl⟩
  exact⟨[_,_],rfl,hbl,fun M'=>⟨[_],[_],rfl,fun _=>rfl,rfl,[_],rfl,fun _=>rfl,_,rfl,rfl,_,_,rfl⟩⟩
 ·rename_i hv;cases hr;refine(Tryz.strconv_ParseUint_10_at64_range_var s hs hv t2 p2 w v2).mono ?_
  rintro e w' ⟨N,rfl,_,_,hbl⟩
  exact⟨[_,_],rfl,hbl,fun M'=>⟨[_],[_],rfl,fun _=>rfl,rfl,[_],rfl,fun _=>rfl,_,rfl,rfl,_,_,rfl⟩⟩
def ct_i_readNat:Ct:=⟨[PK.ro Kd.str],true,[oR lU,oR Kd.bool],S.a9l,[]⟩
theorem v_i_readNat (hR:InR gl) (hS:InS gl):a0k Tryz.prog gl 154 ct_i_readNat:=VV mixed a2g [] [(17,[(59,dI),(58,dI),(9,Sp.dat false (Kd.int IntKind.u64)),(4,Sp.dat false lU),(7,Sp.dat false (Kd.int IntKind.u64)),(0,Sp.dat false Kd.str),(6,dI)]),(10,[(0,Sp.dat false Kd.str),(4,Sp.dat false lU)]),(5,[(30,dI),(29,dI),(0,Sp.dat false Kd.str),(4,Sp.dat false lU)])] P.d0n (a0b (c2t hR hS) (a0b c0h (a0b d3q (a0b b8k cN)))) Tryz.func154 S.e3i
def ct_i_readRat:Ct:=⟨[PK.ro Kd.str],true,[(true,[RC.ro KR]),oR Kd.bool],S.b6k,[]⟩
theorem v_i_readRat (hM:InM gl) (hR:InR gl) (hS:InS gl):a0k Tryz.prog gl 140 ct_i_readRat:=VV mixed a2g [] [] P.d0o (a0b (e1w hM) (a0b c2s (a0b c0h (a0b b8j (a0b d3t (a0b (v_i_readNat hR hS) cN)))))) Tryz.func140 S.e3k
def ct_i_rats:Ct:=⟨[PK.bo lT],true,[oR lR,oR Kd.bool],S.e3l,[]⟩
theorem v_i_rats (hM:InM gl) (hR:InR gl) (hS:InS gl):a0k Tryz.prog gl 112 ct_i_rats:=VV mixed a2g [] [(5,[(15,dI),(14,dI),(13,Sp.dat true lT),(4,Sp.own (96) true KR)])] P.i_rats (a0b (v_i_readRat hM hR hS) cN) Tryz.func112 S.i_rats_ok
def ct_i_sum:Ct:=⟨[PK.ro lR],false,[(true,[RC.ro KR])],S.i_sum,[]⟩
theorem v_i_sum:a0k Tryz.prog gl 115 ct_i_sum:=VV mixed a2g [] [(3,[(9,dI),(8,dI),(7,Sp.dat false lR),(3,Sp.var (24) KR),(2,Sp.var (16) KR)])] P.i_sum (a0b b2n (a0b b4x cN)) Tryz.func115 S.i_sum_ok
def ct_i_isMinus:Ct:=⟨[PK.bo KR],false,rB,S.b4j,[]⟩
theorem c2u:a0k Tryz.prog gl 114 ct_i_isMinus:=VV mixed a2g [] [] P.d0p (a0b a9d cN) Tryz.func114 S.e3m
def b0o:Ct:=⟨[PK.bo lR,PK.fn (114)],false,[oR aI],S.a1q,[]⟩
theorem b1f:a0k Tryz.prog gl 141 b0o:=VV mixed a2g [] [(2,[(8,dI),(7,dI),(1,Sp.fn (114)),(0,Sp.dat true lR)])] P.a3d (a0b c2u cN) Tryz.func141 S.b0l
def a8p:Ct:=⟨[PK.bo lR,PK.fn (114)],false,rB,S.a0w,[]⟩
theorem a9e:a0k Tryz.prog gl 113 a8p:=VV mixed a2g [] [] P.a2k (a0b c2u (a0b b1f cN)) Tryz.func113 S.a8l
def ct_i_summ:Ct:=⟨[PK.mu KR],false,[(true,[RC.ro KR])],S.i_summ,[]⟩
theorem v_i_summ:a0k Tryz.prog gl 115 ct_i_summ:=VV mixed a2g [] [(3,[(9,dI),(8,dI),(7,Sp.own (0) false KR),(3,Sp.var (24) KR),(2,Sp.var (16) KR)])] P.i_summ (a0b b2n (a0b b4x cN)) Tryz.func115 S.i_summ_ok
def d6s:Ct:=⟨[PK.bo lT],true,[oR lR,oR Kd.bool],S.b1g,[]⟩
theorem e1x (hM:InM gl) (hR:InR gl) (hS:InS gl):a0k Tryz.prog gl 84 d6s:=VV mixed a2g [] [] P.c2w (a0b c4n (a0b (v_i_rats hM hR hS) (a0b v_i_sum (a0b c2u (a0b a9e (a0b v_i_summ cN)))))) Tryz.func84 S.d6u
def ct_i_chainOf:Ct:=⟨[PK.bo (Kd.st mT)],true,[oR mR,oR Kd.bool],S.b6u,[]⟩
theorem v_i_chainOf (hM:InM gl) (hR:InR gl) (hS:InS gl):a0k Tryz.prog gl 51 ct_i_chainOf:=VV mixed a2g [] [(5,[(23,dI),(22,dI),(21,Sp.dat true mT),(1,Sp.varb (8) mT),(4,Sp.own (152) true lR)])] P.d3w (a0b (e1x hM hR hS) cN) Tryz.func51 S.i_chainOf_ok
def d6t:Ct:=⟨[PK.bo mR,PK.bo lI],true,[oR (Kd.sl Kd.bool),oR Kd.bool],S.b1h,[]⟩
theorem e1y:a0k Tryz.prog gl 70 d6t:=VV mixed a2g [] [(3,[(14,dI),(13,dI),(12,Sp.dat true lI),(0,Sp.dat true mR),(1,Sp.dat true lI),(6,Sp.own (88) true Kd.bool)])] P.c2x (a0b d3p cN) Tryz.func70 S.d6v
def c1q:Ct:=⟨[PK.bo (Kd.st mT),PK.bo lI],true,[oR mR,oR (Kd.sl Kd.bool),oR Kd.bool],S.a7j,[]⟩
theorem c2v (hM:InM gl) (hR:InR gl) (hS:InS gl):a0k Tryz.prog gl 32 c1q:=VV mixed a2g [] [] P.a7i (a0b (v_i_chainOf hM hR hS) (a0b e1y cN)) Tryz.func32 S.c1r
def ct_i_zerosd:Ct:=⟨[pI],false,[(false,[RC.own lR])],S.c1b,[]⟩
theorem v_i_zerosd:a0k Tryz.prog gl 97 ct_i_zerosd:=VV mixed a2g [] [(3,[(9,dI),(8,dI),(3,Sp.own (48) true lR),(0,dI)])] P.e1z (a0b a3m (a0b b2n cN)) Tryz.func97 S.i_zerosd_ok
def ct_i_onWay:Ct:=⟨[PK.ro mR,pI,PK.bo (Kd.sl Kd.bool)],false,[oR lI],S.c7e,[]⟩
theorem v_i_onWay:a0k Tryz.prog gl 61 ct_i_onWay:=VV mixed a2g [] [(10,[(38,dI),(37,dI),(36,Sp.dat false (Kd.sl Kd.bool)),(2,Sp.dat true (Kd.sl Kd.bool)),(9,Sp.own (264) true aI)]),(3,[(17,dI),(16,dI),(2,Sp.dat true (Kd.sl Kd.bool)),(7,Sp.own (112) true lR),(0,Sp.dat false mR),(1,dI)])] P.i_onWay (a0b v_i_reach (a0b v_i_zerosd cN)) Tryz.func61 S.i_onWay_ok
def c7d:Ct:=⟨[PK.bo (Kd.st mT),pI,PK.bo lI],true,[(false,[RC.own Kd.str]),oR Kd.bool],S.a4q,[]⟩
theorem c9s (hM:InM gl) (hP:InP gl) (hR:InR gl) (hS:InS gl):a0k Tryz.prog gl 24 c7d:=VV mixed a2g [] [(18,[(93,dI),(92,dI),(91,dL),(11,Sp.own (392) true KR),(16,Sp.dat false lR)]),(10,[(65,dI),(64,dI),(63,dL),(13,Sp.own (496) true KR),(1,dI),(8,Sp.dat false mR),(12,dL),(11,Sp.own (392) true KR)])] P.b6b (a0b a3m (a0b b2n (a0b c4n (a0b (v_i_toldList hP) (a0b d3p (a0b d3u (a0b v_i_solve (a0b v_i_hits (a0b (c2v hM hR hS) (a0b v_i_onWay cN)))))))))) Tryz.func24 S.c7f
def b6t:Ct:=⟨[PK.bo (Kd.st mT),pI,PK.bo lI],false,rB,S.a6v,[]⟩
theorem v_l_FnExactVisitsBefore (hM:InM gl) (hP:InP gl) (hR:InR gl) (hS:InS gl):a0k Tryz.prog gl 6 b6t:=VV mixed a2g [] [] P.a2w (a0b v_l_szChain (a0b b8i (a0b c0e (a0b d2u (a0b e0t (a0b c9g (a0b d5x (a0b d2y (a0b e0v (a0b v_l_toChaino (a0b c9o (a0b (c9s hM hP hR hS) cN)))))))))))) Tryz.func6 S.b6v
end Go.Cm.LnVisitsBefore
end
