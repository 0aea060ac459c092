import Derived.Test.YtdpljomfkoojnaaGreatDoorPlAfterSteps
import Derived.Test.YtdpljomfkoojnaaGreatDoorChecked
import Derived.Test.YtdpljomfkoojnaaGreatDoorL4zShelf
import Derived.WalkKit
import Derived.BigCall
import Derived.BigGuard
import Derived.Lib.ItoaMem
import Derived.Lib.AppendIntMem
set_option linter.unusedVariables false
set_option maxRecDepth 100000
noncomputable section
namespace Go.Cm.LnAfterSteps
open Go.RowKit
abbrev KR:Kd:=Kd.st (Kd.pair Kd.bool (Kd.pair (Kd.sl (Kd.int .u32)) (Kd.sl (Kd.int .u32))))
abbrev KS:Kd:=Kd.st (Kd.pair Kd.bool (Kd.pair (Kd.sl (Kd.int .i64)) (Kd.sl (Kd.int .i64))))
variable {gl:List (Nat×List Value)}
theorem td2:TdOk Go.Proofs.Tryz.prog 2 ⟨Kd.int IntKind.i64,8,false,0,[]⟩:= .of (by kernel_rfl) (.inr (by kernel_rfl)) rfl (Go.Proofs.Tryz.underlying2)
theorem td3:TdOk Go.Proofs.Tryz.prog 3 ⟨Kd.int IntKind.i64,8,false,0,[]⟩:= .of (by kernel_rfl) (.inr (by kernel_rfl)) rfl (Go.Proofs.Tryz.underlying3)
theorem td4:TdOk Go.Proofs.Tryz.prog 4 ⟨Kd.bool,1,false,0,[]⟩:= .of (by kernel_rfl) (.inr (by kernel_rfl)) rfl (Go.Proofs.Tryz.underlying4)
theorem td5:TdOk Go.Proofs.Tryz.prog 5 ⟨Kd.int IntKind.u8,1,false,0,[]⟩:= .of (by kernel_rfl) (.inr (by kernel_rfl)) rfl (Go.Proofs.Tryz.underlying5)
theorem td9:TdOk Go.Proofs.Tryz.prog 9 ⟨Kd.str,16,false,0,[]⟩:= .of (by kernel_rfl) (.inr (by kernel_rfl)) rfl (Go.Proofs.Tryz.underlying9)
theorem td20:TdOk Go.Proofs.Tryz.prog 20 ⟨Kd.er,16,false,0,[]⟩:= .of (by kernel_rfl) (.inr (by kernel_rfl)) rfl (⟨_,Go.Proofs.Tryz.underlying20⟩)
theorem td22:TdOk Go.Proofs.Tryz.prog 22 ⟨Kd.sl (Kd.sl Kd.str),24,false,36,[]⟩:= .of (by kernel_rfl) (.inr (by kernel_rfl)) rfl (Go.Proofs.Tryz.underlying22)
theorem td24:TdOk Go.Proofs.Tryz.prog 24 ⟨Kd.st (Kd.sl (Kd.sl Kd.str)),24,true,0,[(0,22)]⟩:= .of (by kernel_rfl) (.inr (by kernel_rfl)) rfl (⟨_,Go.Proofs.Tryz.underlying24,by kernel_rfl,by kernel_rfl⟩)
theorem td26:TdOk Go.Proofs.Tryz.prog 26 ⟨Kd.sl (Kd.int IntKind.i64),24,false,2,[]⟩:= .of (by kernel_rfl) (.inr (by kernel_rfl)) rfl (Go.Proofs.Tryz.underlying26)
theorem td29:TdOk Go.Proofs.Tryz.prog 29 ⟨Kd.st (Kd.sl (Kd.sl Kd.str)),24,true,0,[(0,22)]⟩:= .of (by kernel_rfl) (.inr (by kernel_rfl)) rfl (⟨_,Go.Proofs.Tryz.underlying29,by kernel_rfl,by kernel_rfl⟩)
theorem td36:TdOk Go.Proofs.Tryz.prog 36 ⟨Kd.sl Kd.str,24,false,9,[]⟩:= .of (by kernel_rfl) (.inr (by kernel_rfl)) rfl (Go.Proofs.Tryz.underlying36)
theorem td69:TdOk Go.Proofs.Tryz.prog 69 ⟨Kd.sl (Kd.sl KS),24,false,86,[]⟩:= .of (by kernel_rfl) (.inr (by kernel_rfl)) rfl (Go.Proofs.Tryz.underlying69)
theorem td71:TdOk Go.Proofs.Tryz.prog 71 ⟨Kd.st (Kd.sl (Kd.sl KS)),24,true,0,[(0,69)]⟩:= .of (by kernel_rfl) (.inr (by kernel_rfl)) rfl (⟨_,Go.Proofs.Tryz.underlying71,by kernel_rfl,by kernel_rfl⟩)
theorem td74:TdOk Go.Proofs.Tryz.prog 74 ⟨Kd.pt (Kd.st (Kd.sl (Kd.sl Kd.str))),8,false,0,[]⟩:= .of (by kernel_rfl) (.inl rfl) rfl (⟨_,Go.Proofs.Tryz.underlying74⟩)
theorem td77:TdOk Go.Proofs.Tryz.prog 77 ⟨Kd.pt (Kd.st (Kd.sl (Kd.sl KS))),8,false,0,[]⟩:= .of (by kernel_rfl) (.inl rfl) rfl (⟨_,Go.Proofs.Tryz.underlying77⟩)
theorem td79:TdOk Go.Proofs.Tryz.prog 79 ⟨Kd.sl (Kd.sl KR),24,false,97,[]⟩:= .of (by kernel_rfl) (.inr (by kernel_rfl)) rfl (Go.Proofs.Tryz.underlying79)
theorem td86:TdOk Go.Proofs.Tryz.prog 86 ⟨Kd.sl KS,24,false,92,[]⟩:= .of (by kernel_rfl) (.inr (by kernel_rfl)) rfl (Go.Proofs.Tryz.underlying86)
theorem td92:TdOk Go.Proofs.Tryz.prog 92 ⟨KS,56,true,0,[(0,4),(1,26),(2,26)]⟩:= .of (by kernel_rfl) (.inr (by kernel_rfl)) rfl (⟨_,Go.Proofs.Tryz.underlying92,by kernel_rfl,by kernel_rfl⟩)
theorem td97:TdOk Go.Proofs.Tryz.prog 97 ⟨Kd.sl KR,24,false,104,[]⟩:= .of (by kernel_rfl) (.inr (by kernel_rfl)) rfl (Go.Proofs.Tryz.underlying97)
theorem td102:TdOk Go.Proofs.Tryz.prog 102 ⟨Kd.sl (Kd.int IntKind.u32),24,false,209,[]⟩:= .of (by kernel_rfl) (.inr (by kernel_rfl)) rfl (Go.Proofs.Tryz.underlying102)
theorem td104:TdOk Go.Proofs.Tryz.prog 104 ⟨KR,56,true,0,[(0,4),(1,102),(2,102)]⟩:= .of (by kernel_rfl) (.inr (by kernel_rfl)) rfl (⟨_,Go.Proofs.Tryz.underlying104,by kernel_rfl,by kernel_rfl⟩)
theorem td170:TdOk Go.Proofs.Tryz.prog 170 ⟨Kd.sl (Kd.int IntKind.u8),24,false,5,[]⟩:= .of (by kernel_rfl) (.inr (by kernel_rfl)) rfl (Go.Proofs.Tryz.underlying170)
theorem td172:TdOk Go.Proofs.Tryz.prog 172 ⟨Kd.int IntKind.u64,8,false,0,[]⟩:= .of (by kernel_rfl) (.inr (by kernel_rfl)) rfl (Go.Proofs.Tryz.underlying172)
theorem td194:TdOk Go.Proofs.Tryz.prog 194 ⟨Kd.int IntKind.u64,8,false,0,[]⟩:= .of (by kernel_rfl) (.inr (by kernel_rfl)) rfl (Go.Proofs.Tryz.underlying194)
theorem td209:TdOk Go.Proofs.Tryz.prog 209 ⟨Kd.int IntKind.u32,4,false,0,[]⟩:= .of (by kernel_rfl) (.inr (by kernel_rfl)) rfl (Go.Proofs.Tryz.underlying209)
theorem td224:TdOk Go.Proofs.Tryz.prog 224 ⟨Kd.er,16,false,0,[]⟩:= .of (by kernel_rfl) (.inr (by kernel_rfl)) rfl (⟨_,Go.Proofs.Tryz.underlying224⟩)
def td:List (Nat×Td):=[(2,⟨Kd.int IntKind.i64,8,false,0,[]⟩),(3,⟨Kd.int IntKind.i64,8,false,0,[]⟩),(4,⟨Kd.bool,1,false,0,[]⟩),(5,⟨Kd.int IntKind.u8,1,false,0,[]⟩),(9,⟨Kd.str,16,false,0,[]⟩),(20,⟨Kd.er,16,false,0,[]⟩),(22,⟨Kd.sl (Kd.sl Kd.str),24,false,36,[]⟩),(24,⟨Kd.st (Kd.sl (Kd.sl Kd.str)),24,true,0,[(0,22)]⟩),(26,⟨Kd.sl (Kd.int IntKind.i64),24,false,2,[]⟩),(29,⟨Kd.st (Kd.sl (Kd.sl Kd.str)),24,true,0,[(0,22)]⟩),(36,⟨Kd.sl Kd.str,24,false,9,[]⟩),(69,⟨Kd.sl (Kd.sl KS),24,false,86,[]⟩),(71,⟨Kd.st (Kd.sl (Kd.sl KS)),24,true,0,[(0,69)]⟩),(74,⟨Kd.pt (Kd.st (Kd.sl (Kd.sl Kd.str))),8,false,0,[]⟩),(77,⟨Kd.pt (Kd.st (Kd.sl (Kd.sl KS))),8,false,0,[]⟩),(79,⟨Kd.sl (Kd.sl KR),24,false,97,[]⟩),(86,⟨Kd.sl KS,24,false,92,[]⟩),(92,⟨KS,56,true,0,[(0,4),(1,26),(2,26)]⟩),(97,⟨Kd.sl KR,24,false,104,[]⟩),(102,⟨Kd.sl (Kd.int IntKind.u32),24,false,209,[]⟩),(104,⟨KR,56,true,0,[(0,4),(1,102),(2,102)]⟩),(170,⟨Kd.sl (Kd.int IntKind.u8),24,false,5,[]⟩),(172,⟨Kd.int IntKind.u64,8,false,0,[]⟩),(194,⟨Kd.int IntKind.u64,8,false,0,[]⟩),(209,⟨Kd.int IntKind.u32,4,false,0,[]⟩),(224,⟨Kd.er,16,false,0,[]⟩)]
theorem tdOk:TdsOk ⟨Go.Proofs.Tryz.prog,td,[],[],[]⟩ Go.Proofs.Tryz.prog:=tdsCons td2 (tdsCons td3 (tdsCons td4 (tdsCons td5 (tdsCons td9 (tdsCons td20 (tdsCons td22 (tdsCons td24 (tdsCons td26 (tdsCons td29 (tdsCons td36 (tdsCons td69 (tdsCons td71 (tdsCons td74 (tdsCons td77 (tdsCons td79 (tdsCons td86 (tdsCons td92 (tdsCons td97 (tdsCons td102 (tdsCons td104 (tdsCons td170 (tdsCons td172 (tdsCons td194 (tdsCons td209 (tdsCons td224 (tdsNil _ _ _ _))))))))))))))))))))))))))
theorem mixed:Go.Proofs.Tryz.prog.follows .mixedOrders=true:=by kernel_rfl
def InP (gl:List (Nat×List Value)):Prop:=(3,Go.Lib.pow10Tab.map fun z=>Value.int .u64 z)∈gl
def InM (gl:List (Nat×List Value)):Prop:=∃m,(0,[Value.int .i64 m])∈gl
def InS (gl:List (Nat×List Value)):Prop:=∃t p,(1,[Value.iface t p])∈gl
def InR (gl:List (Nat×List Value)):Prop:=∃t p,(2,[Value.iface t p])∈gl
def ct_l_szStringS:Ct:=⟨[PK.bo (Kd.sl Kd.str),PK.ro (Kd.int IntKind.i64)],false,[(false,[RC.ro (Kd.int IntKind.i64)])],S.l_szStringS,[]⟩
theorem v_l_szStringS:Valid Go.Proofs.Tryz.prog gl 24 ct_l_szStringS:=by
 refine Valid.less (ps:=[PK.bo (Kd.sl Kd.str),PK.ro (Kd.int IntKind.i64)]) (tup:=false) (rs:=[(false,[RC.ro (Kd.int IntKind.i64)])]) (ar:=[]) (g:=P.l_szStringS) (fun k=>valid (fx:=⟨⟨Go.Proofs.Tryz.prog,td,[],[],[]⟩,k,[(5,[(5,Sp.dat false (Kd.int IntKind.i64)),(0,Sp.dat true (Kd.sl Kd.str)),(1,Sp.dat false (Kd.int IntKind.i64))])]⟩) (fn:=Go.Proofs.Tryz.f24) (c:=Go.Proofs.Tryz.f24.body.getD .skip) mixed tdOk (ctsNil _ _ _ _ _) Go.Proofs.Tryz.func24 (by kernel_rfl) (by kernel_rfl) (fun x=> ?_)) S.l_szStringS_ok
 kernel_rfl
def ct_l_szStringSS:Ct:=⟨[PK.bo (Kd.sl (Kd.sl Kd.str)),PK.ro (Kd.int IntKind.i64)],false,[(false,[RC.ro (Kd.int IntKind.i64)])],S.l_szStringSS,[]⟩
theorem v_l_szStringSS:Valid Go.Proofs.Tryz.prog gl 60 ct_l_szStringSS:=by
 refine Valid.less (ps:=[PK.bo (Kd.sl (Kd.sl Kd.str)),PK.ro (Kd.int IntKind.i64)]) (tup:=false) (rs:=[(false,[RC.ro (Kd.int IntKind.i64)])]) (ar:=[]) (g:=P.l_szStringSS) (fun k=>valid (fx:=⟨⟨Go.Proofs.Tryz.prog,td,[(24,ct_l_szStringS)],[],[]⟩,k,[(5,[(5,Sp.dat false (Kd.int IntKind.i64)),(0,Sp.dat true (Kd.sl (Kd.sl Kd.str))),(1,Sp.dat false (Kd.int IntKind.i64))])]⟩) (fn:=Go.Proofs.Tryz.f60) (c:=Go.Proofs.Tryz.f60.body.getD .skip) mixed tdOk (ctsCons v_l_szStringS (ctsNil _ _ _ _ _)) Go.Proofs.Tryz.func60 (by kernel_rfl) (by kernel_rfl) (fun x=> ?_)) S.l_szStringSS_ok
 kernel_rfl
def ct_l_szChain:Ct:=⟨[PK.bo (Kd.st (Kd.sl (Kd.sl Kd.str))),PK.ro (Kd.int IntKind.i64)],false,[(false,[RC.ro (Kd.int IntKind.i64)])],S.l_szChain,[]⟩
theorem v_l_szChain:Valid Go.Proofs.Tryz.prog gl 15 ct_l_szChain:=by
 refine Valid.less (ps:=[PK.bo (Kd.st (Kd.sl (Kd.sl Kd.str))),PK.ro (Kd.int IntKind.i64)]) (tup:=false) (rs:=[(false,[RC.ro (Kd.int IntKind.i64)])]) (ar:=[]) (g:=P.l_szChain) (fun k=>valid (fx:=⟨⟨Go.Proofs.Tryz.prog,td,[(60,ct_l_szStringSS)],[],[]⟩,k,[]⟩) (fn:=Go.Proofs.Tryz.f15) (c:=Go.Proofs.Tryz.f15.body.getD .skip) mixed tdOk (ctsCons v_l_szStringSS (ctsNil _ _ _ _ _)) Go.Proofs.Tryz.func15 (by kernel_rfl) (by kernel_rfl) (fun x=> ?_)) S.l_szChain_ok
 kernel_rfl
def ct_l_roomBehind:Ct:=⟨[PK.ro (Kd.int IntKind.i64)],false,[(false,[RC.ro (Kd.int IntKind.i64)])],S.l_roomBehind,[]⟩
theorem v_l_roomBehind:Valid Go.Proofs.Tryz.prog gl 74 ct_l_roomBehind:=by
 refine Valid.less (ps:=[PK.ro (Kd.int IntKind.i64)]) (tup:=false) (rs:=[(false,[RC.ro (Kd.int IntKind.i64)])]) (ar:=[]) (g:=P.l_roomBehind) (fun k=>valid (fx:=⟨⟨Go.Proofs.Tryz.prog,td,[],[],[]⟩,k,[]⟩) (fn:=Go.Proofs.Tryz.f74) (c:=Go.Proofs.Tryz.f74.body.getD .skip) mixed tdOk (ctsNil _ _ _ _ _) Go.Proofs.Tryz.func74 (by kernel_rfl) (by kernel_rfl) (fun x=> ?_)) S.l_roomBehind_ok
 kernel_rfl
def ct_l_toStringSo:Ct:=⟨[PK.bo (Kd.sl Kd.str),PK.ro Kd.bool],false,[(false,[RC.ov Kd.str])],S.l_toStringSo,[]⟩
theorem v_l_toStringSo:Valid Go.Proofs.Tryz.prog gl 26 ct_l_toStringSo:=by
 refine Valid.less (ps:=[PK.bo (Kd.sl Kd.str),PK.ro Kd.bool]) (tup:=false) (rs:=[(false,[RC.ov Kd.str])]) (ar:=[]) (g:=P.l_toStringSo) (fun k=>valid (fx:=⟨⟨Go.Proofs.Tryz.prog,td,[(74,ct_l_roomBehind)],[],[]⟩,k,[(9,[(7,Sp.dat false (Kd.int IntKind.i64)),(5,Sp.own (160) true Kd.str),(0,Sp.dat true (Kd.sl Kd.str))]),(5,[(6,Sp.dat false (Kd.int IntKind.i64)),(0,Sp.dat true (Kd.sl Kd.str)),(5,Sp.own (160) true Kd.str)])]⟩) (fn:=Go.Proofs.Tryz.f26) (c:=Go.Proofs.Tryz.f26.body.getD .skip) mixed tdOk (ctsCons v_l_roomBehind (ctsNil _ _ _ _ _)) Go.Proofs.Tryz.func26 (by kernel_rfl) (by kernel_rfl) (fun x=> ?_)) S.l_toStringSo_ok
 kernel_rfl
def ct_l_eqStringS:Ct:=⟨[PK.bo (Kd.sl Kd.str),PK.bo (Kd.sl Kd.str)],false,[(false,[RC.ro Kd.bool])],S.l_eqStringS,[]⟩
theorem v_l_eqStringS:Valid Go.Proofs.Tryz.prog gl 28 ct_l_eqStringS:=by
 refine Valid.less (ps:=[PK.bo (Kd.sl Kd.str),PK.bo (Kd.sl Kd.str)]) (tup:=false) (rs:=[(false,[RC.ro Kd.bool])]) (ar:=[]) (g:=P.l_eqStringS) (fun k=>valid (fx:=⟨⟨Go.Proofs.Tryz.prog,td,[],[],[]⟩,k,[(4,[(5,Sp.dat false (Kd.int IntKind.i64)),(0,Sp.dat true (Kd.sl Kd.str)),(1,Sp.dat true (Kd.sl Kd.str))])]⟩) (fn:=Go.Proofs.Tryz.f28) (c:=Go.Proofs.Tryz.f28.body.getD .skip) mixed tdOk (ctsNil _ _ _ _ _) Go.Proofs.Tryz.func28 (by kernel_rfl) (by kernel_rfl) (fun x=> ?_)) S.l_eqStringS_ok
 kernel_rfl
def ct_l_intactStringS:Ct:=⟨[PK.bo (Kd.sv Kd.str),PK.bo (Kd.sv Kd.str)],false,[(false,[RC.ro Kd.bool])],S.l_intactStringS,[]⟩
theorem v_l_intactStringS:Valid Go.Proofs.Tryz.prog gl 29 ct_l_intactStringS:=by
 refine Valid.less (ps:=[PK.bo (Kd.sv Kd.str),PK.bo (Kd.sv Kd.str)]) (tup:=false) (rs:=[(false,[RC.ro Kd.bool])]) (ar:=[]) (g:=P.l_intactStringS) (fun k=>valid (fx:=⟨⟨Go.Proofs.Tryz.prog,td,[(74,ct_l_roomBehind),(28,ct_l_eqStringS)],[],[]⟩,k,[]⟩) (fn:=Go.Proofs.Tryz.f29) (c:=Go.Proofs.Tryz.f29.body.getD .skip) mixed tdOk (ctsCons v_l_roomBehind (ctsCons v_l_eqStringS (ctsNil _ _ _ _ _))) Go.Proofs.Tryz.func29 (by kernel_rfl) (by kernel_rfl) (fun x=> ?_)) S.l_intactStringS_ok
 kernel_rfl
def ct_l_markText:Ct:=⟨[PK.ro (Kd.int IntKind.i64)],false,[(false,[RC.ro Kd.str])],S.l_markText,[]⟩
theorem v_l_markText:Valid Go.Proofs.Tryz.prog gl 82 ct_l_markText:=by
 refine Valid.less (ps:=[PK.ro (Kd.int IntKind.i64)]) (tup:=false) (rs:=[(false,[RC.ro Kd.str])]) (ar:=[]) (g:=P.l_markText) (fun k=>valid (fx:=⟨⟨Go.Proofs.Tryz.prog,td,[],[],[]⟩,k,[(4,[(0,Sp.dat false (Kd.int IntKind.i64)),(3,Sp.dat false Kd.str)])]⟩) (fn:=Go.Proofs.Tryz.f82) (c:=Go.Proofs.Tryz.f82.body.getD .skip) mixed tdOk (ctsNil _ _ _ _ _) Go.Proofs.Tryz.func82 (by kernel_rfl) (by kernel_rfl) (fun x=> ?_)) S.l_markText_ok
 kernel_rfl
def ct_l_markStringS:Ct:=⟨[PK.mu Kd.str,PK.ro (Kd.int IntKind.i64)],false,[(false,[RC.ro (Kd.int IntKind.i64)])],S.l_markStringS,[]⟩
theorem v_l_markStringS:Valid Go.Proofs.Tryz.prog gl 30 ct_l_markStringS:=by
 refine Valid.less (ps:=[PK.mu Kd.str,PK.ro (Kd.int IntKind.i64)]) (tup:=false) (rs:=[(false,[RC.ro (Kd.int IntKind.i64)])]) (ar:=[]) (g:=P.l_markStringS) (fun k=>valid (fx:=⟨⟨Go.Proofs.Tryz.prog,td,[(82,ct_l_markText)],[],[]⟩,k,[(2,[(5,Sp.dat false (Kd.int IntKind.i64)),(0,Sp.own (0) false Kd.str),(1,Sp.dat false (Kd.int IntKind.i64))])]⟩) (fn:=Go.Proofs.Tryz.f30) (c:=Go.Proofs.Tryz.f30.body.getD .skip) mixed tdOk (ctsCons v_l_markText (ctsNil _ _ _ _ _)) Go.Proofs.Tryz.func30 (by kernel_rfl) (by kernel_rfl) (fun x=> ?_)) S.l_markStringS_ok
 kernel_rfl
def ct_l_heldStringS:Ct:=⟨[PK.bo (Kd.sl Kd.str),PK.ro (Kd.int IntKind.i64)],false,[(false,[RC.ro (Kd.int IntKind.i64)])],S.l_heldStringS,[]⟩
theorem v_l_heldStringS:Valid Go.Proofs.Tryz.prog gl 31 ct_l_heldStringS:=by
 refine Valid.less (ps:=[PK.bo (Kd.sl Kd.str),PK.ro (Kd.int IntKind.i64)]) (tup:=false) (rs:=[(false,[RC.ro (Kd.int IntKind.i64)])]) (ar:=[]) (g:=P.l_heldStringS) (fun k=>valid (fx:=⟨⟨Go.Proofs.Tryz.prog,td,[(82,ct_l_markText)],[],[]⟩,k,[(2,[(5,Sp.dat false (Kd.int IntKind.i64)),(0,Sp.dat true (Kd.sl Kd.str)),(1,Sp.dat false (Kd.int IntKind.i64))])]⟩) (fn:=Go.Proofs.Tryz.f31) (c:=Go.Proofs.Tryz.f31.body.getD .skip) mixed tdOk (ctsCons v_l_markText (ctsNil _ _ _ _ _)) Go.Proofs.Tryz.func31 (by kernel_rfl) (by kernel_rfl) (fun x=> ?_)) S.l_heldStringS_ok
 kernel_rfl
def ct_l_eqStringSS:Ct:=⟨[PK.bo (Kd.sl (Kd.sl Kd.str)),PK.bo (Kd.sl (Kd.sl Kd.str))],false,[(false,[RC.ro Kd.bool])],S.l_eqStringSS,[]⟩
theorem v_l_eqStringSS:Valid Go.Proofs.Tryz.prog gl 104 ct_l_eqStringSS:=by
 refine Valid.less (ps:=[PK.bo (Kd.sl (Kd.sl Kd.str)),PK.bo (Kd.sl (Kd.sl Kd.str))]) (tup:=false) (rs:=[(false,[RC.ro Kd.bool])]) (ar:=[]) (g:=P.l_eqStringSS) (fun k=>valid (fx:=⟨⟨Go.Proofs.Tryz.prog,td,[(28,ct_l_eqStringS)],[],[]⟩,k,[(4,[(5,Sp.dat false (Kd.int IntKind.i64)),(0,Sp.dat true (Kd.sl (Kd.sl Kd.str))),(1,Sp.dat true (Kd.sl (Kd.sl Kd.str)))])]⟩) (fn:=Go.Proofs.Tryz.f104) (c:=Go.Proofs.Tryz.f104.body.getD .skip) mixed tdOk (ctsCons v_l_eqStringS (ctsNil _ _ _ _ _)) Go.Proofs.Tryz.func104 (by kernel_rfl) (by kernel_rfl) (fun x=> ?_)) S.l_eqStringSS_ok
 kernel_rfl
def ct_l_intactStringSS:Ct:=⟨[PK.bo (Kd.sv (Kd.sv Kd.str)),PK.bo (Kd.sv (Kd.sv Kd.str))],false,[(false,[RC.ro Kd.bool])],S.l_intactStringSS,[]⟩
theorem v_l_intactStringSS:Valid Go.Proofs.Tryz.prog gl 66 ct_l_intactStringSS:=by
 refine Valid.less (ps:=[PK.bo (Kd.sv (Kd.sv Kd.str)),PK.bo (Kd.sv (Kd.sv Kd.str))]) (tup:=false) (rs:=[(false,[RC.ro Kd.bool])]) (ar:=[]) (g:=P.l_intactStringSS) (fun k=>valid (fx:=⟨⟨Go.Proofs.Tryz.prog,td,[(74,ct_l_roomBehind),(29,ct_l_intactStringS),(104,ct_l_eqStringSS)],[],[]⟩,k,[(5,[(6,Sp.dat false (Kd.int IntKind.i64)),(1,Sp.dat true (Kd.sv (Kd.sv Kd.str))),(0,Sp.dat true (Kd.sv (Kd.sv Kd.str))),(5,Sp.dat false (Kd.int IntKind.i64))])]⟩) (fn:=Go.Proofs.Tryz.f66) (c:=Go.Proofs.Tryz.f66.body.getD .skip) mixed tdOk (ctsCons v_l_roomBehind (ctsCons v_l_intactStringS (ctsCons v_l_eqStringSS (ctsNil _ _ _ _ _)))) Go.Proofs.Tryz.func66 (by kernel_rfl) (by kernel_rfl) (fun x=> ?_)) S.l_intactStringSS_ok
 kernel_rfl
def ct_l_intactChain:Ct:=⟨[PK.bo (Kd.st (Kd.sv (Kd.sv Kd.str))),PK.bo (Kd.st (Kd.sv (Kd.sv Kd.str)))],false,[(false,[RC.ro Kd.bool])],S.l_intactChain,[]⟩
theorem v_l_intactChain:Valid Go.Proofs.Tryz.prog gl 20 ct_l_intactChain:=by
 refine Valid.less (ps:=[PK.bo (Kd.st (Kd.sv (Kd.sv Kd.str))),PK.bo (Kd.st (Kd.sv (Kd.sv Kd.str)))]) (tup:=false) (rs:=[(false,[RC.ro Kd.bool])]) (ar:=[]) (g:=P.l_intactChain) (fun k=>valid (fx:=⟨⟨Go.Proofs.Tryz.prog,td,[(66,ct_l_intactStringSS)],[],[]⟩,k,[]⟩) (fn:=Go.Proofs.Tryz.f20) (c:=Go.Proofs.Tryz.f20.body.getD .skip) mixed tdOk (ctsCons v_l_intactStringSS (ctsNil _ _ _ _ _)) Go.Proofs.Tryz.func20 (by kernel_rfl) (by kernel_rfl) (fun x=> ?_)) S.l_intactChain_ok
 kernel_rfl
def ct_l_markStringSS:Ct:=⟨[PK.mr Kd.str,PK.ro (Kd.int IntKind.i64)],false,[(false,[RC.ro (Kd.int IntKind.i64)])],S.l_markStringSS,[]⟩
theorem v_l_markStringSS:Valid Go.Proofs.Tryz.prog gl 67 ct_l_markStringSS:=by
 refine Valid.less (ps:=[PK.mr Kd.str,PK.ro (Kd.int IntKind.i64)]) (tup:=false) (rs:=[(false,[RC.ro (Kd.int IntKind.i64)])]) (ar:=[]) (g:=P.l_markStringSS) (fun k=>valid (fx:=⟨⟨Go.Proofs.Tryz.prog,td,[(30,ct_l_markStringS)],[],[]⟩,k,[(2,[(5,Sp.dat false (Kd.int IntKind.i64)),(0,Sp.rows (0) false Kd.str),(1,Sp.dat false (Kd.int IntKind.i64))])]⟩) (fn:=Go.Proofs.Tryz.f67) (c:=Go.Proofs.Tryz.f67.body.getD .skip) mixed tdOk (ctsCons v_l_markStringS (ctsNil _ _ _ _ _)) Go.Proofs.Tryz.func67 (by kernel_rfl) (by kernel_rfl) (fun x=> ?_)) S.l_markStringSS_ok
 kernel_rfl
def ct_l_markChain:Ct:=⟨[PK.mr Kd.str,PK.ro (Kd.int IntKind.i64)],false,[(false,[RC.ro (Kd.int IntKind.i64)])],S.l_markChain,[1,0]⟩
theorem v_l_markChain:Valid Go.Proofs.Tryz.prog gl 21 ct_l_markChain:=by
 refine Valid.less (ps:=[PK.mr Kd.str,PK.ro (Kd.int IntKind.i64)]) (tup:=false) (rs:=[(false,[RC.ro (Kd.int IntKind.i64)])]) (ar:=[1,0]) (g:=P.l_markChain) (fun k=>valid (fx:=⟨⟨Go.Proofs.Tryz.prog,td,[(67,ct_l_markStringSS)],[],[]⟩,k,[]⟩) (fn:=Go.Proofs.Tryz.f21) (c:=Go.Proofs.Tryz.f21.body.getD .skip) mixed tdOk (ctsCons v_l_markStringSS (ctsNil _ _ _ _ _)) Go.Proofs.Tryz.func21 (by kernel_rfl) (by kernel_rfl) (fun x=> ?_)) S.l_markChain_ok
 kernel_rfl
def ct_l_toStringSSo:Ct:=⟨[PK.bo (Kd.sl (Kd.sl Kd.str)),PK.ro Kd.bool],false,[(false,[RC.rows Kd.str])],S.l_toStringSSo,[]⟩
theorem v_l_toStringSSo:Valid Go.Proofs.Tryz.prog gl 63 ct_l_toStringSSo:=by
 refine Valid.less (ps:=[PK.bo (Kd.sl (Kd.sl Kd.str)),PK.ro Kd.bool]) (tup:=false) (rs:=[(false,[RC.rows Kd.str])]) (ar:=[]) (g:=P.l_toStringSSo) (fun k=>valid (fx:=⟨⟨Go.Proofs.Tryz.prog,td,[(74,ct_l_roomBehind),(26,ct_l_toStringSo)],[1000020],[]⟩,k,[(9,[(7,Sp.dat false (Kd.int IntKind.i64)),(5,Sp.rows (160) true Kd.str),(0,Sp.dat true (Kd.sl (Kd.sl Kd.str)))]),(5,[(6,Sp.dat false (Kd.int IntKind.i64)),(0,Sp.dat true (Kd.sl (Kd.sl Kd.str))),(5,Sp.rows (160) true Kd.str),(1,Sp.dat false Kd.bool)])]⟩) (fn:=Go.Proofs.Tryz.f63) (c:=Go.Proofs.Tryz.f63.body.getD .skip) mixed tdOk (ctsCons v_l_roomBehind (ctsCons v_l_toStringSo (ctsNil _ _ _ _ _))) Go.Proofs.Tryz.func63 (by kernel_rfl) (by kernel_rfl) (fun x=> ?_)) S.l_toStringSSo_ok
 kernel_rfl
def ct_l_toChaino:Ct:=⟨[PK.bo (Kd.st (Kd.sl (Kd.sl Kd.str))),PK.ro Kd.bool],false,[(true,[RC.rows Kd.str])],S.l_toChaino,[]⟩
theorem v_l_toChaino:Valid Go.Proofs.Tryz.prog gl 17 ct_l_toChaino:=by
 refine Valid.less (ps:=[PK.bo (Kd.st (Kd.sl (Kd.sl Kd.str))),PK.ro Kd.bool]) (tup:=false) (rs:=[(true,[RC.rows Kd.str])]) (ar:=[]) (g:=P.l_toChaino) (fun k=>valid (fx:=⟨⟨Go.Proofs.Tryz.prog,td,[(63,ct_l_toStringSSo)],[],[]⟩,k,[]⟩) (fn:=Go.Proofs.Tryz.f17) (c:=Go.Proofs.Tryz.f17.body.getD .skip) mixed tdOk (ctsCons v_l_toStringSSo (ctsNil _ _ _ _ _)) Go.Proofs.Tryz.func17 (by kernel_rfl) (by kernel_rfl) (fun x=> ?_)) S.l_toChaino_ok
 kernel_rfl
def ct_s_l01Dec:Ct:=⟨[PK.ro (Kd.int IntKind.i64)],false,[(false,[RC.ro Kd.str])],S.s_l01Dec,[]⟩
theorem v_s_l01Dec:Valid Go.Proofs.Tryz.prog gl 217 ct_s_l01Dec:=by
 refine Valid.less (ps:=[PK.ro (Kd.int IntKind.i64)]) (tup:=false) (rs:=[(false,[RC.ro Kd.str])]) (ar:=[]) (g:=P.s_l01Dec) (fun k=>valid (fx:=⟨⟨Go.Proofs.Tryz.prog,td,[],[],[]⟩,k,[(3,[(3,Sp.dat false (Kd.sl (Kd.int IntKind.u8))),(4,Sp.dat false (Kd.int IntKind.i64)),(0,Sp.dat false (Kd.int IntKind.i64))])]⟩) (fn:=Go.Proofs.Tryz.f217) (c:=Go.Proofs.Tryz.f217.body.getD .skip) mixed tdOk (ctsNil _ _ _ _ _) Go.Proofs.Tryz.func217 (by kernel_rfl) (by kernel_rfl) (fun x=> ?_)) S.s_l01Dec_ok
 kernel_rfl
def ct_s_l01NatText:Ct:=⟨[PK.bo (Kd.sl (Kd.int IntKind.i64))],false,[(false,[RC.ro Kd.str])],S.s_l01NatText,[]⟩
theorem v_s_l01NatText:Valid Go.Proofs.Tryz.prog gl 199 ct_s_l01NatText:=by
 refine Valid.less (ps:=[PK.bo (Kd.sl (Kd.int IntKind.i64))]) (tup:=false) (rs:=[(false,[RC.ro Kd.str])]) (ar:=[]) (g:=P.s_l01NatText) (fun k=>valid (fx:=⟨⟨Go.Proofs.Tryz.prog,td,[(217,ct_s_l01Dec)],[],[]⟩,k,[(5,[(4,Sp.dat false (Kd.int IntKind.i64)),(0,Sp.dat true (Kd.sl (Kd.int IntKind.i64))),(3,Sp.dat false Kd.str)])]⟩) (fn:=Go.Proofs.Tryz.f199) (c:=Go.Proofs.Tryz.f199.body.getD .skip) mixed tdOk (ctsCons v_s_l01Dec (ctsNil _ _ _ _ _)) Go.Proofs.Tryz.func199 (by kernel_rfl) (by kernel_rfl) (fun x=> ?_)) S.s_l01NatText_ok
 kernel_rfl
def ct_s_l01Fits:Ct:=⟨[PK.bo KS],false,[(false,[RC.ro Kd.bool])],S.s_l01Fits,[]⟩
theorem v_s_l01Fits:Valid Go.Proofs.Tryz.prog gl 179 ct_s_l01Fits:=by
 refine Valid.less (ps:=[PK.bo KS]) (tup:=false) (rs:=[(false,[RC.ro Kd.bool])]) (ar:=[]) (g:=P.s_l01Fits) (fun k=>valid (fx:=⟨⟨Go.Proofs.Tryz.prog,td,[(199,ct_s_l01NatText)],[],[]⟩,k,[]⟩) (fn:=Go.Proofs.Tryz.f179) (c:=Go.Proofs.Tryz.f179.body.getD .skip) mixed tdOk (ctsCons v_s_l01NatText (ctsNil _ _ _ _ _)) Go.Proofs.Tryz.func179 (by kernel_rfl) (by kernel_rfl) (fun x=> ?_)) S.s_l01Fits_ok
 kernel_rfl
def ct_s_l01Cmp:Ct:=⟨[PK.bo (Kd.sl (Kd.int IntKind.i64)),PK.bo (Kd.sl (Kd.int IntKind.i64))],false,[(false,[RC.ro (Kd.int IntKind.i64)])],S.s_l01Cmp,[]⟩
theorem v_s_l01Cmp:Valid Go.Proofs.Tryz.prog gl 147 ct_s_l01Cmp:=by
 refine Valid.less (ps:=[PK.bo (Kd.sl (Kd.int IntKind.i64)),PK.bo (Kd.sl (Kd.int IntKind.i64))]) (tup:=false) (rs:=[(false,[RC.ro (Kd.int IntKind.i64)])]) (ar:=[]) (g:=P.s_l01Cmp) (fun k=>valid (fx:=⟨⟨Go.Proofs.Tryz.prog,td,[],[],[]⟩,k,[(6,[(5,Sp.dat false (Kd.int IntKind.i64)),(0,Sp.dat true (Kd.sl (Kd.int IntKind.i64))),(1,Sp.dat true (Kd.sl (Kd.int IntKind.i64)))])]⟩) (fn:=Go.Proofs.Tryz.f147) (c:=Go.Proofs.Tryz.f147.body.getD .skip) mixed tdOk (ctsNil _ _ _ _ _) Go.Proofs.Tryz.func147 (by kernel_rfl) (by kernel_rfl) (fun x=> ?_)) S.s_l01Cmp_ok
 kernel_rfl
def ct_s_l01Show:Ct:=⟨[PK.bo KS],false,[(false,[RC.ro Kd.str])],S.s_l01Show,[]⟩
theorem v_s_l01Show:Valid Go.Proofs.Tryz.prog gl 180 ct_s_l01Show:=by
 refine Valid.less (ps:=[PK.bo KS]) (tup:=false) (rs:=[(false,[RC.ro Kd.str])]) (ar:=[]) (g:=P.s_l01Show) (fun k=>valid (fx:=⟨⟨Go.Proofs.Tryz.prog,td,[(147,ct_s_l01Cmp),(199,ct_s_l01NatText)],[],[]⟩,k,[]⟩) (fn:=Go.Proofs.Tryz.f180) (c:=Go.Proofs.Tryz.f180.body.getD .skip) mixed tdOk (ctsCons v_s_l01Cmp (ctsCons v_s_l01NatText (ctsNil _ _ _ _ _))) Go.Proofs.Tryz.func180 (by kernel_rfl) (by kernel_rfl) (fun x=> ?_)) S.s_l01Show_ok
 kernel_rfl
def ct_s_l01Give:Ct:=⟨[PK.bo KS],true,[(false,[RC.ro Kd.str]),(false,[RC.ro Kd.bool])],S.s_l01Give,[]⟩
theorem v_s_l01Give:Valid Go.Proofs.Tryz.prog gl 128 ct_s_l01Give:=by
 refine Valid.less (ps:=[PK.bo KS]) (tup:=true) (rs:=[(false,[RC.ro Kd.str]),(false,[RC.ro Kd.bool])]) (ar:=[]) (g:=P.s_l01Give) (fun k=>valid (fx:=⟨⟨Go.Proofs.Tryz.prog,td,[(179,ct_s_l01Fits),(180,ct_s_l01Show)],[],[]⟩,k,[]⟩) (fn:=Go.Proofs.Tryz.f128) (c:=Go.Proofs.Tryz.f128.body.getD .skip) mixed tdOk (ctsCons v_s_l01Fits (ctsCons v_s_l01Show (ctsNil _ _ _ _ _))) Go.Proofs.Tryz.func128 (by kernel_rfl) (by kernel_rfl) (fun x=> ?_)) S.s_l01Give_ok
 kernel_rfl
def ct_s_l01GiveAll:Ct:=⟨[PK.bo (Kd.sl KS)],true,[(false,[RC.own Kd.str]),(false,[RC.ro Kd.bool])],S.s_l01GiveAll,[]⟩
theorem v_s_l01GiveAll:Valid Go.Proofs.Tryz.prog gl 72 ct_s_l01GiveAll:=by
 refine Valid.less (ps:=[PK.bo (Kd.sl KS)]) (tup:=true) (rs:=[(false,[RC.own Kd.str]),(false,[RC.ro Kd.bool])]) (ar:=[]) (g:=P.s_l01GiveAll) (fun k=>valid (fx:=⟨⟨Go.Proofs.Tryz.prog,td,[(128,ct_s_l01Give)],[],[]⟩,k,[(3,[(11,Sp.dat false (Kd.int IntKind.i64)),(10,Sp.dat false (Kd.int IntKind.i64)),(0,Sp.dat true (Kd.sl KS)),(4,Sp.own (64) true Kd.str)])]⟩) (fn:=Go.Proofs.Tryz.f72) (c:=Go.Proofs.Tryz.f72.body.getD .skip) mixed tdOk (ctsCons v_s_l01Give (ctsNil _ _ _ _ _)) Go.Proofs.Tryz.func72 (by kernel_rfl) (by kernel_rfl) (fun x=> ?_)) S.s_l01GiveAll_ok
 kernel_rfl
def ct_s_l00In:Ct:=⟨[PK.ro (Kd.int IntKind.i64),PK.ro (Kd.int IntKind.i64),PK.ro (Kd.int IntKind.i64)],false,[(false,[RC.ro Kd.bool])],S.s_l00In,[]⟩
theorem v_s_l00In:Valid Go.Proofs.Tryz.prog gl 142 ct_s_l00In:=by
 refine Valid.less (ps:=[PK.ro (Kd.int IntKind.i64),PK.ro (Kd.int IntKind.i64),PK.ro (Kd.int IntKind.i64)]) (tup:=false) (rs:=[(false,[RC.ro Kd.bool])]) (ar:=[]) (g:=P.s_l00In) (fun k=>valid (fx:=⟨⟨Go.Proofs.Tryz.prog,td,[],[],[]⟩,k,[]⟩) (fn:=Go.Proofs.Tryz.f142) (c:=Go.Proofs.Tryz.f142.body.getD .skip) mixed tdOk (ctsNil _ _ _ _ _) Go.Proofs.Tryz.func142 (by kernel_rfl) (by kernel_rfl) (fun x=> ?_)) S.s_l00In_ok
 kernel_rfl
def ct_s_l01Cut:Ct:=⟨[PK.ro Kd.str,PK.ro (Kd.int IntKind.u8)],false,[(false,[RC.own Kd.str])],S.s_l01Cut,[]⟩
theorem v_s_l01Cut:Valid Go.Proofs.Tryz.prog gl 161 ct_s_l01Cut:=by
 refine Valid.less (ps:=[PK.ro Kd.str,PK.ro (Kd.int IntKind.u8)]) (tup:=false) (rs:=[(false,[RC.own Kd.str])]) (ar:=[]) (g:=P.s_l01Cut) (fun k=>valid (fx:=⟨⟨Go.Proofs.Tryz.prog,td,[],[],[]⟩,k,[(4,[(7,Sp.dat false (Kd.int IntKind.i64)),(0,Sp.dat false Kd.str),(1,Sp.dat false (Kd.int IntKind.u8)),(5,Sp.own (64) true Kd.str),(6,Sp.dat false (Kd.int IntKind.i64))])]⟩) (fn:=Go.Proofs.Tryz.f161) (c:=Go.Proofs.Tryz.f161.body.getD .skip) mixed tdOk (ctsNil _ _ _ _ _) Go.Proofs.Tryz.func161 (by kernel_rfl) (by kernel_rfl) (fun x=> ?_)) S.s_l01Cut_ok
 kernel_rfl
def ct_s_l01Trim:Ct:=⟨[PK.ro (Kd.sl (Kd.int IntKind.i64))],false,[(false,[RC.ro (Kd.sl (Kd.int IntKind.i64))])],S.s_l01Trim,[]⟩
theorem v_s_l01Trim:Valid Go.Proofs.Tryz.prog gl 191 ct_s_l01Trim:=by
 refine Valid.less (ps:=[PK.ro (Kd.sl (Kd.int IntKind.i64))]) (tup:=false) (rs:=[(false,[RC.ro (Kd.sl (Kd.int IntKind.i64))])]) (ar:=[]) (g:=P.s_l01Trim) (fun k=>valid (fx:=⟨⟨Go.Proofs.Tryz.prog,td,[],[],[]⟩,k,[(1,[(0,Sp.dat false (Kd.sl (Kd.int IntKind.i64)))])]⟩) (fn:=Go.Proofs.Tryz.f191) (c:=Go.Proofs.Tryz.f191.body.getD .skip) mixed tdOk (ctsNil _ _ _ _ _) Go.Proofs.Tryz.func191 (by kernel_rfl) (by kernel_rfl) (fun x=> ?_)) S.s_l01Trim_ok
 kernel_rfl
def ct_s_l01Nat:Ct:=⟨[PK.ro (Kd.int IntKind.i64)],false,[(false,[RC.ro (Kd.sl (Kd.int IntKind.i64))])],S.s_l01Nat,[]⟩
theorem v_s_l01Nat:Valid Go.Proofs.Tryz.prog gl 194 ct_s_l01Nat:=by
 refine Valid.less (ps:=[PK.ro (Kd.int IntKind.i64)]) (tup:=false) (rs:=[(false,[RC.ro (Kd.sl (Kd.int IntKind.i64))])]) (ar:=[]) (g:=P.s_l01Nat) (fun k=>valid (fx:=⟨⟨Go.Proofs.Tryz.prog,td,[],[],[]⟩,k,[(2,[(0,Sp.dat false (Kd.int IntKind.i64)),(3,Sp.own (32) true (Kd.int IntKind.i64))])]⟩) (fn:=Go.Proofs.Tryz.f194) (c:=Go.Proofs.Tryz.f194.body.getD .skip) mixed tdOk (ctsNil _ _ _ _ _) Go.Proofs.Tryz.func194 (by kernel_rfl) (by kernel_rfl) (fun x=> ?_)) S.s_l01Nat_ok
 kernel_rfl
def ct_s_l01Digit:Ct:=⟨[PK.bo (Kd.sl (Kd.int IntKind.i64)),PK.ro (Kd.int IntKind.i64)],false,[(false,[RC.ro (Kd.int IntKind.i64)])],S.s_l01Digit,[]⟩
theorem v_s_l01Digit:Valid Go.Proofs.Tryz.prog gl 193 ct_s_l01Digit:=by
 refine Valid.less (ps:=[PK.bo (Kd.sl (Kd.int IntKind.i64)),PK.ro (Kd.int IntKind.i64)]) (tup:=false) (rs:=[(false,[RC.ro (Kd.int IntKind.i64)])]) (ar:=[]) (g:=P.s_l01Digit) (fun k=>valid (fx:=⟨⟨Go.Proofs.Tryz.prog,td,[],[],[]⟩,k,[]⟩) (fn:=Go.Proofs.Tryz.f193) (c:=Go.Proofs.Tryz.f193.body.getD .skip) mixed tdOk (ctsNil _ _ _ _ _) Go.Proofs.Tryz.func193 (by kernel_rfl) (by kernel_rfl) (fun x=> ?_)) S.s_l01Digit_ok
 kernel_rfl
def ct_s_l01Small:Ct:=⟨[PK.bo (Kd.sl (Kd.int IntKind.i64))],true,[(false,[RC.ro (Kd.int IntKind.i64)]),(false,[RC.ro Kd.bool])],S.s_l01Small,[]⟩
theorem v_s_l01Small:Valid Go.Proofs.Tryz.prog gl 209 ct_s_l01Small:=by
 refine Valid.less (ps:=[PK.bo (Kd.sl (Kd.int IntKind.i64))]) (tup:=true) (rs:=[(false,[RC.ro (Kd.int IntKind.i64)]),(false,[RC.ro Kd.bool])]) (ar:=[]) (g:=P.s_l01Small) (fun k=>valid (fx:=⟨⟨Go.Proofs.Tryz.prog,td,[(193,ct_s_l01Digit)],[],[]⟩,k,[]⟩) (fn:=Go.Proofs.Tryz.f209) (c:=Go.Proofs.Tryz.f209.body.getD .skip) mixed tdOk (ctsCons v_s_l01Digit (ctsNil _ _ _ _ _)) Go.Proofs.Tryz.func209 (by kernel_rfl) (by kernel_rfl) (fun x=> ?_)) S.s_l01Small_ok
 kernel_rfl
def ct_s_l01ShortMul:Ct:=⟨[PK.bo (Kd.sl (Kd.int IntKind.i64)),PK.ro (Kd.int IntKind.i64)],false,[(false,[RC.own (Kd.int IntKind.i64)])],S.s_l01ShortMul,[]⟩
theorem v_s_l01ShortMul:Valid Go.Proofs.Tryz.prog gl 211 ct_s_l01ShortMul:=by
 refine Valid.less (ps:=[PK.bo (Kd.sl (Kd.int IntKind.i64)),PK.ro (Kd.int IntKind.i64)]) (tup:=false) (rs:=[(false,[RC.own (Kd.int IntKind.i64)])]) (ar:=[]) (g:=P.s_l01ShortMul) (fun k=>valid (fx:=⟨⟨Go.Proofs.Tryz.prog,td,[],[],[]⟩,k,[(4,[(16,Sp.dat false (Kd.int IntKind.i64)),(15,Sp.dat false (Kd.int IntKind.i64)),(14,Sp.dat true (Kd.sl (Kd.int IntKind.i64))),(1,Sp.dat false (Kd.int IntKind.i64)),(6,Sp.dat false (Kd.int IntKind.i64)),(5,Sp.own (104) true (Kd.int IntKind.i64))])]⟩) (fn:=Go.Proofs.Tryz.f211) (c:=Go.Proofs.Tryz.f211.body.getD .skip) mixed tdOk (ctsNil _ _ _ _ _) Go.Proofs.Tryz.func211 (by kernel_rfl) (by kernel_rfl) (fun x=> ?_)) S.s_l01ShortMul_ok
 kernel_rfl
def ct_s_l01ShortDiv:Ct:=⟨[PK.bo (Kd.sl (Kd.int IntKind.i64)),PK.ro (Kd.int IntKind.i64)],true,[(false,[RC.ro (Kd.sl (Kd.int IntKind.i64))]),(false,[RC.ro (Kd.int IntKind.i64)])],S.s_l01ShortDiv,[]⟩
theorem v_s_l01ShortDiv:Valid Go.Proofs.Tryz.prog gl 210 ct_s_l01ShortDiv:=by
 refine Valid.less (ps:=[PK.bo (Kd.sl (Kd.int IntKind.i64)),PK.ro (Kd.int IntKind.i64)]) (tup:=true) (rs:=[(false,[RC.ro (Kd.sl (Kd.int IntKind.i64))]),(false,[RC.ro (Kd.int IntKind.i64)])]) (ar:=[]) (g:=P.s_l01ShortDiv) (fun k=>valid (fx:=⟨⟨Go.Proofs.Tryz.prog,td,[(191,ct_s_l01Trim)],[],[]⟩,k,[(4,[(8,Sp.dat false (Kd.int IntKind.i64)),(7,Sp.dat false (Kd.int IntKind.i64)),(0,Sp.dat true (Kd.sl (Kd.int IntKind.i64))),(6,Sp.own (96) true (Kd.int IntKind.i64)),(1,Sp.dat false (Kd.int IntKind.i64))])]⟩) (fn:=Go.Proofs.Tryz.f210) (c:=Go.Proofs.Tryz.f210.body.getD .skip) mixed tdOk (ctsCons v_s_l01Trim (ctsNil _ _ _ _ _)) Go.Proofs.Tryz.func210 (by kernel_rfl) (by kernel_rfl) (fun x=> ?_)) S.s_l01ShortDiv_ok
 kernel_rfl
def ct_s_l01TakeOff:Ct:=⟨[PK.mu (Kd.int IntKind.i64),PK.bo (Kd.sl (Kd.int IntKind.i64)),PK.ro (Kd.int IntKind.i64),PK.ro (Kd.int IntKind.i64)],false,[(false,[RC.ro Kd.bool])],S.s_l01TakeOff,[]⟩
theorem v_s_l01TakeOff:Valid Go.Proofs.Tryz.prog gl 212 ct_s_l01TakeOff:=by
 refine Valid.less (ps:=[PK.mu (Kd.int IntKind.i64),PK.bo (Kd.sl (Kd.int IntKind.i64)),PK.ro (Kd.int IntKind.i64),PK.ro (Kd.int IntKind.i64)]) (tup:=false) (rs:=[(false,[RC.ro Kd.bool])]) (ar:=[]) (g:=P.s_l01TakeOff) (fun k=>valid (fx:=⟨⟨Go.Proofs.Tryz.prog,td,[],[],[]⟩,k,[(3,[(15,Sp.dat false (Kd.int IntKind.i64)),(14,Sp.dat false (Kd.int IntKind.i64)),(13,Sp.dat true (Kd.sl (Kd.int IntKind.i64))),(0,Sp.own (0) false (Kd.int IntKind.i64)),(2,Sp.dat false (Kd.int IntKind.i64)),(3,Sp.dat false (Kd.int IntKind.i64)),(9,Sp.dat false (Kd.int IntKind.i64)),(1,Sp.dat true (Kd.sl (Kd.int IntKind.i64)))])]⟩) (fn:=Go.Proofs.Tryz.f212) (c:=Go.Proofs.Tryz.f212.body.getD .skip) mixed tdOk (ctsNil _ _ _ _ _) Go.Proofs.Tryz.func212 (by kernel_rfl) (by kernel_rfl) (fun x=> ?_)) S.s_l01TakeOff_ok
 kernel_rfl
def ct_s_l01PutBack:Ct:=⟨[PK.mu (Kd.int IntKind.i64),PK.bo (Kd.sl (Kd.int IntKind.i64)),PK.ro (Kd.int IntKind.i64)],true,[],S.s_l01PutBack,[]⟩
theorem v_s_l01PutBack:Valid Go.Proofs.Tryz.prog gl 213 ct_s_l01PutBack:=by
 refine Valid.less (ps:=[PK.mu (Kd.int IntKind.i64),PK.bo (Kd.sl (Kd.int IntKind.i64)),PK.ro (Kd.int IntKind.i64)]) (tup:=true) (rs:=[]) (ar:=[]) (g:=P.s_l01PutBack) (fun k=>valid (fx:=⟨⟨Go.Proofs.Tryz.prog,td,[],[],[]⟩,k,[(2,[(12,Sp.dat false (Kd.int IntKind.i64)),(11,Sp.dat false (Kd.int IntKind.i64)),(10,Sp.dat true (Kd.sl (Kd.int IntKind.i64))),(0,Sp.own (0) false (Kd.int IntKind.i64)),(2,Sp.dat false (Kd.int IntKind.i64)),(6,Sp.dat false (Kd.int IntKind.i64)),(1,Sp.dat true (Kd.sl (Kd.int IntKind.i64)))])]⟩) (fn:=Go.Proofs.Tryz.f213) (c:=Go.Proofs.Tryz.f213.body.getD .skip) mixed tdOk (ctsNil _ _ _ _ _) Go.Proofs.Tryz.func213 (by kernel_rfl) (by kernel_rfl) (fun x=> ?_)) S.s_l01PutBack_ok
 kernel_rfl
def ct_s_l01NatDiv:Ct:=⟨[PK.bo (Kd.sl (Kd.int IntKind.i64)),PK.bo (Kd.sl (Kd.int IntKind.i64))],true,[(false,[RC.ro (Kd.sl (Kd.int IntKind.i64))]),(false,[RC.ro (Kd.sl (Kd.int IntKind.i64))])],S.s_l01NatDiv,[]⟩
theorem v_s_l01NatDiv:Valid Go.Proofs.Tryz.prog gl 192 ct_s_l01NatDiv:=by
 refine Valid.less (ps:=[PK.bo (Kd.sl (Kd.int IntKind.i64)),PK.bo (Kd.sl (Kd.int IntKind.i64))]) (tup:=true) (rs:=[(false,[RC.ro (Kd.sl (Kd.int IntKind.i64))]),(false,[RC.ro (Kd.sl (Kd.int IntKind.i64))])]) (ar:=[]) (g:=P.s_l01NatDiv) (fun k=>valid (fx:=⟨⟨Go.Proofs.Tryz.prog,td,[(191,ct_s_l01Trim),(194,ct_s_l01Nat),(147,ct_s_l01Cmp),(209,ct_s_l01Small),(211,ct_s_l01ShortMul),(210,ct_s_l01ShortDiv),(212,ct_s_l01TakeOff),(213,ct_s_l01PutBack)],[],[]⟩,k,[(21,[(19,Sp.dat false (Kd.int IntKind.i64)),(14,Sp.dat false (Kd.sl (Kd.int IntKind.i64))),(15,Sp.dat false (Kd.int IntKind.i64)),(20,Sp.dat false (Kd.int IntKind.i64)),(13,Sp.own (624) true (Kd.int IntKind.i64)),(17,Sp.dat false (Kd.int IntKind.i64)),(16,Sp.own (744) true (Kd.int IntKind.i64)),(12,Sp.dat false (Kd.int IntKind.i64))]),(17,[(17,Sp.dat false (Kd.int IntKind.i64)),(13,Sp.own (624) true (Kd.int IntKind.i64)),(15,Sp.dat false (Kd.int IntKind.i64)),(14,Sp.dat false (Kd.sl (Kd.int IntKind.i64))),(16,Sp.own (744) true (Kd.int IntKind.i64)),(12,Sp.dat false (Kd.int IntKind.i64))])]⟩) (fn:=Go.Proofs.Tryz.f192) (c:=Go.Proofs.Tryz.f192.body.getD .skip) mixed tdOk (ctsCons v_s_l01Trim (ctsCons v_s_l01Nat (ctsCons v_s_l01Cmp (ctsCons v_s_l01Small (ctsCons v_s_l01ShortMul (ctsCons v_s_l01ShortDiv (ctsCons v_s_l01TakeOff (ctsCons v_s_l01PutBack (ctsNil _ _ _ _ _))))))))) Go.Proofs.Tryz.func192 (by kernel_rfl) (by kernel_rfl) (fun x=> ?_)) S.s_l01NatDiv_ok
 kernel_rfl
def ct_s_l01Gcd:Ct:=⟨[PK.ro (Kd.sl (Kd.int IntKind.i64)),PK.ro (Kd.sl (Kd.int IntKind.i64))],false,[(false,[RC.ro (Kd.sl (Kd.int IntKind.i64))])],S.s_l01Gcd,[]⟩
theorem v_s_l01Gcd:Valid Go.Proofs.Tryz.prog gl 164 ct_s_l01Gcd:=by
 refine Valid.less (ps:=[PK.ro (Kd.sl (Kd.int IntKind.i64)),PK.ro (Kd.sl (Kd.int IntKind.i64))]) (tup:=false) (rs:=[(false,[RC.ro (Kd.sl (Kd.int IntKind.i64))])]) (ar:=[]) (g:=P.s_l01Gcd) (fun k=>valid (fx:=⟨⟨Go.Proofs.Tryz.prog,td,[(192,ct_s_l01NatDiv)],[],[]⟩,k,[(1,[(1,Sp.dat false (Kd.sl (Kd.int IntKind.i64))),(0,Sp.dat false (Kd.sl (Kd.int IntKind.i64)))])]⟩) (fn:=Go.Proofs.Tryz.f164) (c:=Go.Proofs.Tryz.f164.body.getD .skip) mixed tdOk (ctsCons v_s_l01NatDiv (ctsNil _ _ _ _ _)) Go.Proofs.Tryz.func164 (by kernel_rfl) (by kernel_rfl) (fun x=> ?_)) S.s_l01Gcd_ok
 kernel_rfl
def ct_s_l01NatRead:Ct:=⟨[PK.ro Kd.str],false,[(false,[RC.ro (Kd.sl (Kd.int IntKind.i64))])],S.s_l01NatRead,[]⟩
theorem v_s_l01NatRead:Valid Go.Proofs.Tryz.prog gl 163 ct_s_l01NatRead:=by
 refine Valid.less (ps:=[PK.ro Kd.str]) (tup:=false) (rs:=[(false,[RC.ro (Kd.sl (Kd.int IntKind.i64))])]) (ar:=[]) (g:=P.s_l01NatRead) (fun k=>valid (fx:=⟨⟨Go.Proofs.Tryz.prog,td,[(191,ct_s_l01Trim)],[],[]⟩,k,[(10,[(7,Sp.dat false (Kd.int IntKind.i64)),(4,Sp.dat false (Kd.int IntKind.i64)),(6,Sp.dat false (Kd.int IntKind.i64)),(0,Sp.dat false Kd.str),(3,Sp.own (64) true (Kd.int IntKind.i64))]),(3,[(4,Sp.dat false (Kd.int IntKind.i64)),(0,Sp.dat false Kd.str),(3,Sp.own (64) true (Kd.int IntKind.i64))])]⟩) (fn:=Go.Proofs.Tryz.f163) (c:=Go.Proofs.Tryz.f163.body.getD .skip) mixed tdOk (ctsCons v_s_l01Trim (ctsNil _ _ _ _ _)) Go.Proofs.Tryz.func163 (by kernel_rfl) (by kernel_rfl) (fun x=> ?_)) S.s_l01NatRead_ok
 kernel_rfl
def ct_s_l01Digits:Ct:=⟨[PK.ro Kd.str],false,[(false,[RC.ro Kd.bool])],S.s_l01Digits,[]⟩
theorem v_s_l01Digits:Valid Go.Proofs.Tryz.prog gl 162 ct_s_l01Digits:=by
 refine Valid.less (ps:=[PK.ro Kd.str]) (tup:=false) (rs:=[(false,[RC.ro Kd.bool])]) (ar:=[]) (g:=P.s_l01Digits) (fun k=>valid (fx:=⟨⟨Go.Proofs.Tryz.prog,td,[],[],[]⟩,k,[(2,[(3,Sp.dat false (Kd.int IntKind.i64)),(0,Sp.dat false Kd.str)])]⟩) (fn:=Go.Proofs.Tryz.f162) (c:=Go.Proofs.Tryz.f162.body.getD .skip) mixed tdOk (ctsNil _ _ _ _ _) Go.Proofs.Tryz.func162 (by kernel_rfl) (by kernel_rfl) (fun x=> ?_)) S.s_l01Digits_ok
 kernel_rfl
def ct_s_l01Parse:Ct:=⟨[PK.ro Kd.str],true,[(true,[RC.ro KS]),(false,[RC.ro Kd.bool])],S.s_l01Parse,[]⟩
theorem v_s_l01Parse:Valid Go.Proofs.Tryz.prog gl 110 ct_s_l01Parse:=by
 refine Valid.less (ps:=[PK.ro Kd.str]) (tup:=true) (rs:=[(true,[RC.ro KS]),(false,[RC.ro Kd.bool])]) (ar:=[]) (g:=P.s_l01Parse) (fun k=>valid (fx:=⟨⟨Go.Proofs.Tryz.prog,td,[(161,ct_s_l01Cut),(147,ct_s_l01Cmp),(164,ct_s_l01Gcd),(163,ct_s_l01NatRead),(162,ct_s_l01Digits)],[],[]⟩,k,[]⟩) (fn:=Go.Proofs.Tryz.f110) (c:=Go.Proofs.Tryz.f110.body.getD .skip) mixed tdOk (ctsCons v_s_l01Cut (ctsCons v_s_l01Cmp (ctsCons v_s_l01Gcd (ctsCons v_s_l01NatRead (ctsCons v_s_l01Digits (ctsNil _ _ _ _ _)))))) Go.Proofs.Tryz.func110 (by kernel_rfl) (by kernel_rfl) (fun x=> ?_)) S.s_l01Parse_ok
 kernel_rfl
def ct_s_l01List:Ct:=⟨[PK.bo (Kd.sl Kd.str)],true,[(false,[RC.ro (Kd.sl KS)]),(false,[RC.ro Kd.bool])],S.s_l01List,[]⟩
theorem v_s_l01List:Valid Go.Proofs.Tryz.prog gl 68 ct_s_l01List:=by
 refine Valid.less (ps:=[PK.bo (Kd.sl Kd.str)]) (tup:=true) (rs:=[(false,[RC.ro (Kd.sl KS)]),(false,[RC.ro Kd.bool])]) (ar:=[]) (g:=P.s_l01List) (fun k=>valid (fx:=⟨⟨Go.Proofs.Tryz.prog,td,[(110,ct_s_l01Parse)],[],[]⟩,k,[(5,[(14,Sp.dat false (Kd.int IntKind.i64)),(13,Sp.dat false (Kd.int IntKind.i64)),(0,Sp.dat true (Kd.sl Kd.str)),(4,Sp.own (88) true KS)])]⟩) (fn:=Go.Proofs.Tryz.f68) (c:=Go.Proofs.Tryz.f68.body.getD .skip) mixed tdOk (ctsCons v_s_l01Parse (ctsNil _ _ _ _ _)) Go.Proofs.Tryz.func68 (by kernel_rfl) (by kernel_rfl) (fun x=> ?_)) S.s_l01List_ok
 kernel_rfl
def ct_s_l01Int:Ct:=⟨[PK.ro (Kd.int IntKind.i64)],false,[(true,[RC.ro KS])],S.s_l01Int,[]⟩
theorem v_s_l01Int:Valid Go.Proofs.Tryz.prog gl 168 ct_s_l01Int:=by
 refine Valid.less (ps:=[PK.ro (Kd.int IntKind.i64)]) (tup:=false) (rs:=[(true,[RC.ro KS])]) (ar:=[]) (g:=P.s_l01Int) (fun k=>valid (fx:=⟨⟨Go.Proofs.Tryz.prog,td,[(194,ct_s_l01Nat)],[],[]⟩,k,[]⟩) (fn:=Go.Proofs.Tryz.f168) (c:=Go.Proofs.Tryz.f168.body.getD .skip) mixed tdOk (ctsCons v_s_l01Nat (ctsNil _ _ _ _ _)) Go.Proofs.Tryz.func168 (by kernel_rfl) (by kernel_rfl) (fun x=> ?_)) S.s_l01Int_ok
 kernel_rfl
def ct_s_l01One:Ct:=⟨[],false,[(true,[RC.ro KS])],S.s_l01One,[]⟩
theorem v_s_l01One:Valid Go.Proofs.Tryz.prog gl 114 ct_s_l01One:=by
 refine Valid.less (ps:=[]) (tup:=false) (rs:=[(true,[RC.ro KS])]) (ar:=[]) (g:=P.s_l01One) (fun k=>valid (fx:=⟨⟨Go.Proofs.Tryz.prog,td,[(168,ct_s_l01Int)],[],[]⟩,k,[]⟩) (fn:=Go.Proofs.Tryz.f114) (c:=Go.Proofs.Tryz.f114.body.getD .skip) mixed tdOk (ctsCons v_s_l01Int (ctsNil _ _ _ _ _)) Go.Proofs.Tryz.func114 (by kernel_rfl) (by kernel_rfl) (fun x=> ?_)) S.s_l01One_ok
 kernel_rfl
def ct_s_l01NatMul:Ct:=⟨[PK.bo (Kd.sl (Kd.int IntKind.i64)),PK.bo (Kd.sl (Kd.int IntKind.i64))],false,[(false,[RC.ro (Kd.sl (Kd.int IntKind.i64))])],S.s_l01NatMul,[]⟩
theorem v_s_l01NatMul:Valid Go.Proofs.Tryz.prog gl 148 ct_s_l01NatMul:=by
 refine Valid.less (ps:=[PK.bo (Kd.sl (Kd.int IntKind.i64)),PK.bo (Kd.sl (Kd.int IntKind.i64))]) (tup:=false) (rs:=[(false,[RC.ro (Kd.sl (Kd.int IntKind.i64))])]) (ar:=[]) (g:=P.s_l01NatMul) (fun k=>valid (fx:=⟨⟨Go.Proofs.Tryz.prog,td,[(191,ct_s_l01Trim)],[],[]⟩,k,[(7,[(23,Sp.dat false (Kd.int IntKind.i64)),(22,Sp.dat false (Kd.int IntKind.i64)),(5,Sp.own (120) true (Kd.int IntKind.i64)),(6,Sp.dat false (Kd.int IntKind.i64)),(0,Sp.dat true (Kd.sl (Kd.int IntKind.i64))),(1,Sp.dat true (Kd.sl (Kd.int IntKind.i64))),(7,Sp.dat false (Kd.int IntKind.i64)),(18,Sp.dat false (Kd.int IntKind.i64)),(17,Sp.dat false (Kd.int IntKind.i64))]),(3,[(18,Sp.dat false (Kd.int IntKind.i64)),(17,Sp.dat false (Kd.int IntKind.i64)),(1,Sp.dat true (Kd.sl (Kd.int IntKind.i64))),(5,Sp.own (120) true (Kd.int IntKind.i64)),(0,Sp.dat true (Kd.sl (Kd.int IntKind.i64)))])]⟩) (fn:=Go.Proofs.Tryz.f148) (c:=Go.Proofs.Tryz.f148.body.getD .skip) mixed tdOk (ctsCons v_s_l01Trim (ctsNil _ _ _ _ _)) Go.Proofs.Tryz.func148 (by kernel_rfl) (by kernel_rfl) (fun x=> ?_)) S.s_l01NatMul_ok
 kernel_rfl
def ct_s_l01Equal:Ct:=⟨[PK.bo KS,PK.bo KS],false,[(false,[RC.ro Kd.bool])],S.s_l01Equal,[]⟩
theorem v_s_l01Equal:Valid Go.Proofs.Tryz.prog gl 90 ct_s_l01Equal:=by
 refine Valid.less (ps:=[PK.bo KS,PK.bo KS]) (tup:=false) (rs:=[(false,[RC.ro Kd.bool])]) (ar:=[]) (g:=P.s_l01Equal) (fun k=>valid (fx:=⟨⟨Go.Proofs.Tryz.prog,td,[(147,ct_s_l01Cmp),(148,ct_s_l01NatMul)],[],[]⟩,k,[]⟩) (fn:=Go.Proofs.Tryz.f90) (c:=Go.Proofs.Tryz.f90.body.getD .skip) mixed tdOk (ctsCons v_s_l01Cmp (ctsCons v_s_l01NatMul (ctsNil _ _ _ _ _))) Go.Proofs.Tryz.func90 (by kernel_rfl) (by kernel_rfl) (fun x=> ?_)) S.s_l01Equal_ok
 kernel_rfl
def ct_s_l01None:Ct:=⟨[],false,[(true,[RC.ro KS])],S.s_l01None,[]⟩
theorem v_s_l01None:Valid Go.Proofs.Tryz.prog gl 123 ct_s_l01None:=by
 refine Valid.less (ps:=[]) (tup:=false) (rs:=[(true,[RC.ro KS])]) (ar:=[]) (g:=P.s_l01None) (fun k=>valid (fx:=⟨⟨Go.Proofs.Tryz.prog,td,[(168,ct_s_l01Int)],[],[]⟩,k,[]⟩) (fn:=Go.Proofs.Tryz.f123) (c:=Go.Proofs.Tryz.f123.body.getD .skip) mixed tdOk (ctsCons v_s_l01Int (ctsNil _ _ _ _ _)) Go.Proofs.Tryz.func123 (by kernel_rfl) (by kernel_rfl) (fun x=> ?_)) S.s_l01None_ok
 kernel_rfl
def ct_s_l01NatAdd:Ct:=⟨[PK.bo (Kd.sl (Kd.int IntKind.i64)),PK.bo (Kd.sl (Kd.int IntKind.i64))],false,[(false,[RC.ro (Kd.sl (Kd.int IntKind.i64))])],S.s_l01NatAdd,[]⟩
theorem v_s_l01NatAdd:Valid Go.Proofs.Tryz.prog gl 156 ct_s_l01NatAdd:=by
 refine Valid.less (ps:=[PK.bo (Kd.sl (Kd.int IntKind.i64)),PK.bo (Kd.sl (Kd.int IntKind.i64))]) (tup:=false) (rs:=[(false,[RC.ro (Kd.sl (Kd.int IntKind.i64))])]) (ar:=[]) (g:=P.s_l01NatAdd) (fun k=>valid (fx:=⟨⟨Go.Proofs.Tryz.prog,td,[(193,ct_s_l01Digit)],[],[]⟩,k,[(4,[(7,Sp.dat false (Kd.int IntKind.i64)),(0,Sp.dat true (Kd.sl (Kd.int IntKind.i64))),(1,Sp.dat true (Kd.sl (Kd.int IntKind.i64))),(6,Sp.dat false (Kd.int IntKind.i64)),(5,Sp.own (72) true (Kd.int IntKind.i64))])]⟩) (fn:=Go.Proofs.Tryz.f156) (c:=Go.Proofs.Tryz.f156.body.getD .skip) mixed tdOk (ctsCons v_s_l01Digit (ctsNil _ _ _ _ _)) Go.Proofs.Tryz.func156 (by kernel_rfl) (by kernel_rfl) (fun x=> ?_)) S.s_l01NatAdd_ok
 kernel_rfl
def ct_s_l01NatLess:Ct:=⟨[PK.bo (Kd.sl (Kd.int IntKind.i64)),PK.bo (Kd.sl (Kd.int IntKind.i64))],false,[(false,[RC.ro (Kd.sl (Kd.int IntKind.i64))])],S.s_l01NatLess,[]⟩
theorem v_s_l01NatLess:Valid Go.Proofs.Tryz.prog gl 157 ct_s_l01NatLess:=by
 refine Valid.less (ps:=[PK.bo (Kd.sl (Kd.int IntKind.i64)),PK.bo (Kd.sl (Kd.int IntKind.i64))]) (tup:=false) (rs:=[(false,[RC.ro (Kd.sl (Kd.int IntKind.i64))])]) (ar:=[]) (g:=P.s_l01NatLess) (fun k=>valid (fx:=⟨⟨Go.Proofs.Tryz.prog,td,[(191,ct_s_l01Trim),(193,ct_s_l01Digit)],[],[]⟩,k,[(4,[(12,Sp.dat false (Kd.int IntKind.i64)),(11,Sp.dat false (Kd.int IntKind.i64)),(0,Sp.dat true (Kd.sl (Kd.int IntKind.i64))),(1,Sp.dat true (Kd.sl (Kd.int IntKind.i64))),(6,Sp.dat false (Kd.int IntKind.i64)),(5,Sp.own (72) true (Kd.int IntKind.i64))])]⟩) (fn:=Go.Proofs.Tryz.f157) (c:=Go.Proofs.Tryz.f157.body.getD .skip) mixed tdOk (ctsCons v_s_l01Trim (ctsCons v_s_l01Digit (ctsNil _ _ _ _ _))) Go.Proofs.Tryz.func157 (by kernel_rfl) (by kernel_rfl) (fun x=> ?_)) S.s_l01NatLess_ok
 kernel_rfl
def ct_s_l01Make:Ct:=⟨[PK.ro Kd.bool,PK.ro (Kd.sl (Kd.int IntKind.i64)),PK.ro (Kd.sl (Kd.int IntKind.i64))],false,[(true,[RC.ro KS])],S.s_l01Make,[]⟩
theorem v_s_l01Make:Valid Go.Proofs.Tryz.prog gl 155 ct_s_l01Make:=by
 refine Valid.less (ps:=[PK.ro Kd.bool,PK.ro (Kd.sl (Kd.int IntKind.i64)),PK.ro (Kd.sl (Kd.int IntKind.i64))]) (tup:=false) (rs:=[(true,[RC.ro KS])]) (ar:=[]) (g:=P.s_l01Make) (fun k=>valid (fx:=⟨⟨Go.Proofs.Tryz.prog,td,[(147,ct_s_l01Cmp),(192,ct_s_l01NatDiv),(164,ct_s_l01Gcd)],[],[]⟩,k,[]⟩) (fn:=Go.Proofs.Tryz.f155) (c:=Go.Proofs.Tryz.f155.body.getD .skip) mixed tdOk (ctsCons v_s_l01Cmp (ctsCons v_s_l01NatDiv (ctsCons v_s_l01Gcd (ctsNil _ _ _ _ _)))) Go.Proofs.Tryz.func155 (by kernel_rfl) (by kernel_rfl) (fun x=> ?_)) S.s_l01Make_ok
 kernel_rfl
def ct_s_l01Sum:Ct:=⟨[PK.bo KS,PK.bo KS],false,[(true,[RC.ro KS])],S.s_l01Sum,[]⟩
theorem v_s_l01Sum:Valid Go.Proofs.Tryz.prog gl 97 ct_s_l01Sum:=by
 refine Valid.less (ps:=[PK.bo KS,PK.bo KS]) (tup:=false) (rs:=[(true,[RC.ro KS])]) (ar:=[]) (g:=P.s_l01Sum) (fun k=>valid (fx:=⟨⟨Go.Proofs.Tryz.prog,td,[(147,ct_s_l01Cmp),(148,ct_s_l01NatMul),(156,ct_s_l01NatAdd),(157,ct_s_l01NatLess),(155,ct_s_l01Make)],[],[]⟩,k,[]⟩) (fn:=Go.Proofs.Tryz.f97) (c:=Go.Proofs.Tryz.f97.body.getD .skip) mixed tdOk (ctsCons v_s_l01Cmp (ctsCons v_s_l01NatMul (ctsCons v_s_l01NatAdd (ctsCons v_s_l01NatLess (ctsCons v_s_l01Make (ctsNil _ _ _ _ _)))))) Go.Proofs.Tryz.func97 (by kernel_rfl) (by kernel_rfl) (fun x=> ?_)) S.s_l01Sum_ok
 kernel_rfl
def ct_s_l01Total:Ct:=⟨[PK.bo (Kd.sl KS)],false,[(true,[RC.ro KS])],S.s_l01Total,[]⟩
theorem v_s_l01Total:Valid Go.Proofs.Tryz.prog gl 71 ct_s_l01Total:=by
 refine Valid.less (ps:=[PK.bo (Kd.sl KS)]) (tup:=false) (rs:=[(true,[RC.ro KS])]) (ar:=[]) (g:=P.s_l01Total) (fun k=>valid (fx:=⟨⟨Go.Proofs.Tryz.prog,td,[(123,ct_s_l01None),(97,ct_s_l01Sum)],[],[]⟩,k,[(3,[(8,Sp.dat false (Kd.int IntKind.i64)),(7,Sp.dat false (Kd.int IntKind.i64)),(3,Sp.var (24) KS),(0,Sp.dat true (Kd.sl KS)),(2,Sp.var (16) KS)])]⟩) (fn:=Go.Proofs.Tryz.f71) (c:=Go.Proofs.Tryz.f71.body.getD .skip) mixed tdOk (ctsCons v_s_l01None (ctsCons v_s_l01Sum (ctsNil _ _ _ _ _))) Go.Proofs.Tryz.func71 (by kernel_rfl) (by kernel_rfl) (fun x=> ?_)) S.s_l01Total_ok
 kernel_rfl
def ct_s_l01Positive:Ct:=⟨[PK.bo (Kd.sl KS)],false,[(false,[RC.ro Kd.bool])],S.s_l01Positive,[]⟩
theorem v_s_l01Positive:Valid Go.Proofs.Tryz.prog gl 69 ct_s_l01Positive:=by
 refine Valid.less (ps:=[PK.bo (Kd.sl KS)]) (tup:=false) (rs:=[(false,[RC.ro Kd.bool])]) (ar:=[]) (g:=P.s_l01Positive) (fun k=>valid (fx:=⟨⟨Go.Proofs.Tryz.prog,td,[],[],[]⟩,k,[(2,[(6,Sp.dat false (Kd.int IntKind.i64)),(5,Sp.dat false (Kd.int IntKind.i64)),(0,Sp.dat true (Kd.sl KS))])]⟩) (fn:=Go.Proofs.Tryz.f69) (c:=Go.Proofs.Tryz.f69.body.getD .skip) mixed tdOk (ctsNil _ _ _ _ _) Go.Proofs.Tryz.func69 (by kernel_rfl) (by kernel_rfl) (fun x=> ?_)) S.s_l01Positive_ok
 kernel_rfl
def ct_s_l01Weights:Ct:=⟨[PK.bo (Kd.sl KS)],false,[(false,[RC.ro Kd.bool])],S.s_l01Weights,[]⟩
theorem v_s_l01Weights:Valid Go.Proofs.Tryz.prog gl 133 ct_s_l01Weights:=by
 refine Valid.less (ps:=[PK.bo (Kd.sl KS)]) (tup:=false) (rs:=[(false,[RC.ro Kd.bool])]) (ar:=[]) (g:=P.s_l01Weights) (fun k=>valid (fx:=⟨⟨Go.Proofs.Tryz.prog,td,[(114,ct_s_l01One),(90,ct_s_l01Equal),(71,ct_s_l01Total),(69,ct_s_l01Positive)],[],[]⟩,k,[]⟩) (fn:=Go.Proofs.Tryz.f133) (c:=Go.Proofs.Tryz.f133.body.getD .skip) mixed tdOk (ctsCons v_s_l01One (ctsCons v_s_l01Equal (ctsCons v_s_l01Total (ctsCons v_s_l01Positive (ctsNil _ _ _ _ _))))) Go.Proofs.Tryz.func133 (by kernel_rfl) (by kernel_rfl) (fun x=> ?_)) S.s_l01Weights_ok
 kernel_rfl
def ct_s_l03Parse:Ct:=⟨[PK.bo (Kd.pt (Kd.st (Kd.sl (Kd.sl Kd.str))))],true,[(true,[RC.ro (Kd.st (Kd.sl (Kd.sl KS)))]),(false,[RC.ro Kd.bool])],S.s_l03Parse,[]⟩
theorem v_s_l03Parse:Valid Go.Proofs.Tryz.prog gl 61 ct_s_l03Parse:=by
 refine Valid.less (ps:=[PK.bo (Kd.pt (Kd.st (Kd.sl (Kd.sl Kd.str))))]) (tup:=true) (rs:=[(true,[RC.ro (Kd.st (Kd.sl (Kd.sl KS)))]),(false,[RC.ro Kd.bool])]) (ar:=[]) (g:=P.s_l03Parse) (fun k=>valid (fx:=⟨⟨Go.Proofs.Tryz.prog,td,[(68,ct_s_l01List),(133,ct_s_l01Weights)],[],[]⟩,k,[(6,[(27,Sp.dat false (Kd.int IntKind.i64)),(26,Sp.dat false (Kd.int IntKind.i64)),(0,Sp.dat true (Kd.pt (Kd.st (Kd.sl (Kd.sl Kd.str))))),(4,Sp.dat false (Kd.int IntKind.i64)),(2,Sp.var (16) (Kd.st (Kd.sl (Kd.sl KS)))),(5,Sp.vow (40) (512) (Kd.sl KS))])]⟩) (fn:=Go.Proofs.Tryz.f61) (c:=Go.Proofs.Tryz.f61.body.getD .skip) mixed tdOk (ctsCons v_s_l01List (ctsCons v_s_l01Weights (ctsNil _ _ _ _ _))) Go.Proofs.Tryz.func61 (by kernel_rfl) (by kernel_rfl) (fun x=> ?_)) S.s_l03Parse_ok
 kernel_rfl
def ct_s_l01Times:Ct:=⟨[PK.bo KS,PK.bo KS],false,[(true,[RC.ro KS])],S.s_l01Times,[]⟩
theorem v_s_l01Times:Valid Go.Proofs.Tryz.prog gl 112 ct_s_l01Times:=by
 refine Valid.less (ps:=[PK.bo KS,PK.bo KS]) (tup:=false) (rs:=[(true,[RC.ro KS])]) (ar:=[]) (g:=P.s_l01Times) (fun k=>valid (fx:=⟨⟨Go.Proofs.Tryz.prog,td,[(148,ct_s_l01NatMul),(155,ct_s_l01Make)],[],[]⟩,k,[]⟩) (fn:=Go.Proofs.Tryz.f112) (c:=Go.Proofs.Tryz.f112.body.getD .skip) mixed tdOk (ctsCons v_s_l01NatMul (ctsCons v_s_l01Make (ctsNil _ _ _ _ _))) Go.Proofs.Tryz.func112 (by kernel_rfl) (by kernel_rfl) (fun x=> ?_)) S.s_l01Times_ok
 kernel_rfl
def ct_s_l03Step:Ct:=⟨[PK.bo (Kd.pt (Kd.st (Kd.sl (Kd.sl KS)))),PK.bo (Kd.sl KS)],false,[(false,[RC.ro (Kd.sl KS)])],S.s_l03Step,[]⟩
theorem v_s_l03Step:Valid Go.Proofs.Tryz.prog gl 159 ct_s_l03Step:=by
 refine Valid.less (ps:=[PK.bo (Kd.pt (Kd.st (Kd.sl (Kd.sl KS)))),PK.bo (Kd.sl KS)]) (tup:=false) (rs:=[(false,[RC.ro (Kd.sl KS)])]) (ar:=[]) (g:=P.s_l03Step) (fun k=>valid (fx:=⟨⟨Go.Proofs.Tryz.prog,td,[(123,ct_s_l01None),(97,ct_s_l01Sum),(112,ct_s_l01Times)],[],[]⟩,k,[(7,[(18,Sp.dat false (Kd.int IntKind.i64)),(17,Sp.dat false (Kd.int IntKind.i64)),(7,Sp.var (56) KS),(1,Sp.dat true (Kd.sl KS)),(0,Sp.dat true (Kd.pt (Kd.st (Kd.sl (Kd.sl KS))))),(6,Sp.dat false (Kd.int IntKind.i64)),(5,Sp.own (72) true KS),(12,Sp.dat false (Kd.int IntKind.i64)),(11,Sp.dat false (Kd.int IntKind.i64))]),(3,[(12,Sp.dat false (Kd.int IntKind.i64)),(11,Sp.dat false (Kd.int IntKind.i64)),(1,Sp.dat true (Kd.sl KS)),(0,Sp.dat true (Kd.pt (Kd.st (Kd.sl (Kd.sl KS))))),(5,Sp.own (72) true KS)])]⟩) (fn:=Go.Proofs.Tryz.f159) (c:=Go.Proofs.Tryz.f159.body.getD .skip) mixed tdOk (ctsCons v_s_l01None (ctsCons v_s_l01Sum (ctsCons v_s_l01Times (ctsNil _ _ _ _ _)))) Go.Proofs.Tryz.func159 (by kernel_rfl) (by kernel_rfl) (fun x=> ?_)) S.s_l03Step_ok
 kernel_rfl
def ct_s_l03After:Ct:=⟨[PK.bo (Kd.pt (Kd.st (Kd.sl (Kd.sl Kd.str)))),PK.bo (Kd.sl Kd.str),PK.ro (Kd.int IntKind.i64)],true,[(true,[RC.ro (Kd.st (Kd.sl (Kd.sl KS)))]),(false,[RC.ro (Kd.sl KS)]),(false,[RC.ro Kd.bool])],S.s_l03After,[]⟩
theorem v_s_l03After:Valid Go.Proofs.Tryz.prog gl 106 ct_s_l03After:=by
 refine Valid.less (ps:=[PK.bo (Kd.pt (Kd.st (Kd.sl (Kd.sl Kd.str)))),PK.bo (Kd.sl Kd.str),PK.ro (Kd.int IntKind.i64)]) (tup:=true) (rs:=[(true,[RC.ro (Kd.st (Kd.sl (Kd.sl KS)))]),(false,[RC.ro (Kd.sl KS)]),(false,[RC.ro Kd.bool])]) (ar:=[]) (g:=P.s_l03After) (fun k=>valid (fx:=⟨⟨Go.Proofs.Tryz.prog,td,[(142,ct_s_l00In),(68,ct_s_l01List),(133,ct_s_l01Weights),(61,ct_s_l03Parse),(159,ct_s_l03Step)],[],[]⟩,k,[(5,[(2,Sp.dat false (Kd.int IntKind.i64)),(11,Sp.dat false (Kd.sl KS)),(9,Sp.var (72) (Kd.sl (Kd.sl KS))),(6,Sp.var (48) (Kd.st (Kd.sl (Kd.sl KS))))])]⟩) (fn:=Go.Proofs.Tryz.f106) (c:=Go.Proofs.Tryz.f106.body.getD .skip) mixed tdOk (ctsCons v_s_l00In (ctsCons v_s_l01List (ctsCons v_s_l01Weights (ctsCons v_s_l03Parse (ctsCons v_s_l03Step (ctsNil _ _ _ _ _)))))) Go.Proofs.Tryz.func106 (by kernel_rfl) (by kernel_rfl) (fun x=> ?_)) S.s_l03After_ok
 kernel_rfl
def ct_s_AfterSteps:Ct:=⟨[PK.bo (Kd.st (Kd.sl (Kd.sl Kd.str))),PK.bo (Kd.sl Kd.str),PK.ro (Kd.int IntKind.i64)],true,[(false,[RC.own Kd.str]),(false,[RC.ro Kd.bool])],S.s_AfterSteps,[]⟩
theorem v_s_AfterSteps:Valid Go.Proofs.Tryz.prog gl 46 ct_s_AfterSteps:=by
 refine Valid.less (ps:=[PK.bo (Kd.st (Kd.sl (Kd.sl Kd.str))),PK.bo (Kd.sl Kd.str),PK.ro (Kd.int IntKind.i64)]) (tup:=true) (rs:=[(false,[RC.own Kd.str]),(false,[RC.ro Kd.bool])]) (ar:=[]) (g:=P.s_AfterSteps) (fun k=>valid (fx:=⟨⟨Go.Proofs.Tryz.prog,td,[(72,ct_s_l01GiveAll),(106,ct_s_l03After)],[],[]⟩,k,[]⟩) (fn:=Go.Proofs.Tryz.f46) (c:=Go.Proofs.Tryz.f46.body.getD .skip) mixed tdOk (ctsCons v_s_l01GiveAll (ctsCons v_s_l03After (ctsNil _ _ _ _ _))) Go.Proofs.Tryz.func46 (by kernel_rfl) (by kernel_rfl) (fun x=> ?_)) S.s_AfterSteps_ok
 kernel_rfl
def ct_i_in:Ct:=⟨[PK.ro (Kd.int IntKind.i64),PK.ro (Kd.int IntKind.i64),PK.ro (Kd.int IntKind.i64)],false,[(false,[RC.ro Kd.bool])],S.i_in,[]⟩
theorem v_i_in:Valid Go.Proofs.Tryz.prog gl 108 ct_i_in:=by
 refine Valid.less (ps:=[PK.ro (Kd.int IntKind.i64),PK.ro (Kd.int IntKind.i64),PK.ro (Kd.int IntKind.i64)]) (tup:=false) (rs:=[(false,[RC.ro Kd.bool])]) (ar:=[]) (g:=P.i_in) (fun k=>valid (fx:=⟨⟨Go.Proofs.Tryz.prog,td,[],[],[]⟩,k,[]⟩) (fn:=Go.Proofs.Tryz.f108) (c:=Go.Proofs.Tryz.f108.body.getD .skip) mixed tdOk (ctsNil _ _ _ _ _) Go.Proofs.Tryz.func108 (by kernel_rfl) (by kernel_rfl) (fun x=> ?_)) S.i_in_ok
 kernel_rfl
def ct_strconv_FormatUint:Ct:=⟨[PK.ro (Kd.int IntKind.u64),PK.ro (Kd.int IntKind.i64)],false,[(false,[RC.ro Kd.str])],S.strconv_FormatUint,[]⟩
set_option maxHeartbeats 6400000 in
set_option maxRecDepth 100000 in
open Go.Proofs Go.Shelf Go.RowKit Go.Sort Go.Lib in
theorem fu_small (i:Nat) (hi:i<100) (w:World):
  Calls Go.Proofs.Tryz.prog 222 #[.int .u64 i, .int .i64 10] w fun e w'=>e= .returned (.string ⟨(Lib.decDigits i).toArray⟩)∧w'=w:=by
 have eSm:∀args w,(callFunc 239 args).run Go.Proofs.Tryz.prog w= .ok (.enter 239 args) w:=Go.Proofs.enters_of Go.Proofs.Tryz.func239 (by kernel_rfl) rfl
 go_enter Go.Proofs.Tryz.func222,Go.Proofs.Tryz.ntmps222
 go_wp2_with (go_at_fn 239;refine(Go.Proofs.Tryz.internal_strconv_small i hi _).mono ?_;rintro e w' ⟨rfl,rfl⟩)
 go_ret
 exact⟨rfl,rfl⟩
set_option maxHeartbeats 12800000 in
set_option maxRecDepth 100000 in
open Go.Proofs Go.Shelf Go.RowKit Go.Sort Go.Lib in
theorem fu_big (u:Nat) (hu:100≤u) (hu64:u<18446744073709551616) (w:World)
  (htab:Lib.TabIs Go.Proofs.Tryz.prog w "internal/strconv.uint64pow10" .u64 Lib.pow10Tab):
  Calls Go.Proofs.Tryz.prog 222 #[.int .u64 u, .int .i64 10] w fun e w'=>e= .returned (.string ⟨(Lib.decDigits u).toArray⟩)∧∃k os,w'=grow (w.drewN k) os:=by
 have eNd:∀args w,(callFunc 240 args).run Go.Proofs.Tryz.prog w= .ok (.enter 240 args) w:=Go.Proofs.enters_of Go.Proofs.Tryz.func240 (by kernel_rfl) rfl
 have eFb:∀args w,(callFunc 241 args).run Go.Proofs.Tryz.prog w= .ok (.enter 241 args) w:=Go.Proofs.enters_of Go.Proofs.Tryz.func241 (by kernel_rfl) rfl
 have hu1:1≤u:=by omega
 have hnd20:Lib.nDigits u≤20:=by have:=Lib.numDigits_eq u hu1 hu64;split at this<;>omega
 have hal:Go.Proofs.Tryz.prog.arrayLen 259=24:=by simp [Program.arrayLen,Go.Proofs.Tryz.underlying259]
 have hsl:∀W,(Instr.sliceAt 259 (.pointer (some ⟨w.heap.size,0,none⟩)) none (some (.int .i64 (Lib.nDigits u:Int))) none).run Go.Proofs.Tryz.prog W= .ok (.slice (some ⟨w.heap.size,0,none⟩) (Lib.nDigits u) 24) W:=fun W=>by
  rw[run_sliceAt_array_h W 259 ⟨w.heap.size,0,none⟩ (by simp [Program.arrayLen,Program.elem,Go.Proofs.Tryz.underlying259]) .i64 (Lib.nDigits u:Int) (by omega) (by rw[hal];omega)]
  go_simp
 have hH0:=Lib.holds_zero0 w 259 (Lib.nDigits u) (by omega)
 have hfmt:=Go.Proofs.Tryz.internal_strconv_formatBase10 w.heap.size 0 24 u (Array.replicate (Lib.nDigits u) 0) (w.alloc (.cells Lib.zeros24 259)) hH0 (by rw[Array.size_replicate];exact Lib.lt_pow_nDigits u) hu64 (by rw[Array.size_replicate];omega)
 rw[Array.size_replicate]at hfmt
 have HH0:=Lib.hid hH0
 have iu:(100:Int)≤(u:Int):=by omega
 clear hH0 hal
 go_enter Go.Proofs.Tryz.func222,Go.Proofs.Tryz.ntmps222
 go_wp2_with (first
  |(go_at_fn 240;refine(Go.Proofs.Tryz.internal_strconv_numDigits u hu1 hu64 _ (Lib.tabIs_alloc htab _)).mono ?_;rintro e w' ⟨rfl,rfl⟩))
 go_at_fn 241
 refine hfmt.mono ?_
 rintro e w' ⟨rfl,k,v',dk,rfl,hF⟩
 have hcv:(convert 170 9 (.slice (some ⟨w.heap.size,0,none⟩) (Lib.nDigits u) 24)).run Go.Proofs.Tryz.prog ((putRow (fun(b:UInt8)=>Value.int .u8 (b.toNat:Int)) (w.alloc (.cells Lib.zeros24 259)) w.heap.size 0 dk).drewN k)= .ok (.string ⟨(Lib.decDigits u).toArray⟩) ((putRow (fun(b:UInt8)=>Value.int .u8 (b.toNat:Int)) (w.alloc (.cells Lib.zeros24 259)) w.heap.size 0 dk).drewN k):=by
  have h:=run_convert_bytes_back (P:=Go.Proofs.Tryz.prog) ((putRow (fun(b:UInt8)=>Value.int .u8 (b.toNat:Int)) (w.alloc (.cells Lib.zeros24 259)) w.heap.size 0 dk).drewN k) 170 9 5 ⟨w.heap.size,0,none⟩ 24 (Lib.decDigits u) Go.Proofs.Tryz.underlying170 Go.Proofs.Tryz.underlying5 Go.Proofs.Tryz.underlying9 (fun j hj=>by
   rw[Lib.row_is_numeral hF j hj,Lib.add_plain,World.cell?_drewN]
   exact cell?_putRow (fun(b:UInt8)=>Value.int .u8 (b.toNat:Int)) _ w.heap.size 0 _ dk HH0.out (by rw[hF.size,Array.size_replicate]) j (by rw[hF.size];rw[Lib.decDigits_length]at hj;exact hj))
  rw[Lib.decDigits_length]at h
  exact h
 go_wp2
 go_ret
 obtain⟨os,eo⟩:=Lib.fin_at w (.cells Lib.zeros24 259) dk k 0
 exact⟨rfl,k,os,eo⟩
set_option maxRecDepth 100000 in
open Go.Proofs Go.Shelf Go.RowKit Go.Sort Go.Lib in
theorem fu_pub (n:Nat) (h:n<18446744073709551616) (w:World)
  (htab:Lib.TabIs Go.Proofs.Tryz.prog w "internal/strconv.uint64pow10" .u64 Lib.pow10Tab):
  Calls Go.Proofs.Tryz.prog 205 #[.int .u64 n, .int .i64 10] w fun e w'=>e= .returned (.string ⟨(Lib.decDigits n).toArray⟩)∧∃k os,w'=grow (w.drewN k) os:=by
 have eFu:∀args w,(callFunc 222 args).run Go.Proofs.Tryz.prog w= .ok (.enter 222 args) w:=Go.Proofs.enters_of Go.Proofs.Tryz.func222 (by kernel_rfl) rfl
 have hin:Calls Go.Proofs.Tryz.prog 222 #[.int .u64 n, .int .i64 10] w fun e w'=>e= .returned (.string ⟨(Lib.decDigits n).toArray⟩)∧∃k os,w'=grow (w.drewN k) os:=by
  by_cases h1:n<100
  ·refine(fu_small n h1 w).mono ?_
   rintro e w' ⟨rfl,rfl⟩
   exact⟨rfl,0, #[],by simp [World.drewN_zero]⟩
  ·exact fu_big n (by omega) h w htab
 go_enter Go.Proofs.Tryz.func205,Go.Proofs.Tryz.ntmps205
 go_wp2_with (go_at_fn 222;refine hin.mono ?_;rintro e w' ⟨rfl,k,os,rfl⟩)
 go_ret
 exact⟨rfl,k,os,rfl⟩
theorem belowGrowU (w:World) (k:Nat) (os:Array Obj):Below w.heap.size w (Go.Sort.grow (w.drewN k) os):=⟨rfl,rfl,rfl,by simp [Go.Sort.grow,World.drewN],fun b hb=>by simp [Go.Sort.grow,World.drewN,Array.getElem?_append_left hb]⟩
theorem v_strconv_FormatUint (hP:InP gl):Valid Go.Proofs.Tryz.prog gl 205 ct_strconv_FormatUint:=by
 refine told_flat (enters_of Go.Proofs.Tryz.func205 (by kernel_rfl) (by kernel_rfl)) (fun _ _ _ _ _ _=>trivial) (fun w M0 W0 us x γ hl hW ha r hr=> ?_)
 obtain⟨n,b,q⟩:=x
 obtain⟨u1,_,rfl,⟨c1,h1,h1'⟩,u2,_,rfl,⟨c2,h2,h2'⟩,rfl⟩:=ha
 cases h1';cases h2';subst h1;subst h2
 unfold S.strconv_FormatUint at hr
 split at hr
 case isFalse=>cases hr
 rename_i hc
 obtain⟨hb,h0,h3⟩:=hc
 cases hr
 dsimp only at hb h0 h3
 subst hb
 obtain⟨m,rfl⟩:∃m:Nat,n=(m:Int):=⟨n.toNat,(Int.toNat_of_nonneg h0).symm⟩
 rw[Int.toNat_natCast]
 have htab:Lib.TabIs Go.Proofs.Tryz.prog w "internal/strconv.uint64pow10" .u64 Lib.pow10Tab:=laid_var hl hP (by kernel_rfl)
 refine(fu_pub m (by omega) w htab).mono ?_
 rintro e w' ⟨rfl,k,os,rfl⟩
 exact⟨[_],rfl,belowGrowU _ _ _,fun M'=>⟨[_],rfl,fun _=>rfl,rfl⟩⟩
def ct_strings_Join:Ct:=⟨[PK.bo (Kd.sl Kd.str),PK.ro Kd.str],false,[(false,[RC.ro Kd.str])],S.strings_Join,[]⟩
theorem v_strings_Join:Valid Go.Proofs.Tryz.prog gl 208 ct_strings_Join:=by
 refine told_flat (enters_of Go.Proofs.Tryz.func208 (by kernel_rfl) (by kernel_rfl)) (fun _ _ _ _ _ _=>trivial) (fun w M0 W0 us x γ hl hW ha r hr=> ?_)
 obtain⟨xs,sep,q⟩:=x
 obtain⟨u1,_,rfl,⟨c1,h1,h1'⟩,u2,_,rfl,⟨c2,h2,h2'⟩,rfl⟩:=ha
 cases h2';subst h2
 obtain⟨A,c,rfl,hlc,hel⟩:=h1'
 subst h1
 unfold S.strings_Join at hr
 split at hr
 case isFalse=>cases hr
 rename_i hc
 obtain⟨hn,hj⟩:=hc
 cases hr
 dsimp only at hn hj
 by_cases h0:xs.length=0
 ·have:xs=[]:=List.eq_nil_of_length_eq_zero h0
  subst this
  refine(Go.Proofs.Tryz.strings_Join_none A c sep w).mono ?_
  rintro e w' ⟨rfl,rfl⟩
  exact⟨[_],rfl,Below.refl _ _,fun M'=>⟨[_],rfl,fun _=>rfl,rfl⟩⟩
 ·obtain⟨b,o,rfl,hcell⟩:=hel h0
  have hcells:∀(j:Nat) x,xs[j]? =some x→w.cell? ⟨b,o+j,none⟩=some (.string x):=by
   intro j x hx
   obtain⟨es,e1,e2⟩:=hcell j x hx
   cases e1
   have:=(e2 0 _ rfl).1
   simpa [Kd.sz]using this
  have hbk:b<w.heap.size:=by
   have:=hcells 0 xs[0] (List.getElem?_eq_getElem (by omega))
   exact World.block_lt_of_cell? _ _ this
  refine(Go.Proofs.Tryz.strings_Join b o c xs sep w hcells hbk hn hlc hj).mono ?_
  rintro e w' ⟨rfl,hbl⟩
  exact⟨[_],rfl,hbl,fun M'=>⟨[_],rfl,fun _=>rfl,rfl⟩⟩
def ct_strings_Repeat:Ct:=⟨[PK.ro Kd.str,PK.ro (Kd.int IntKind.i64)],false,[(false,[RC.ro Kd.str])],S.strings_Repeat,[]⟩
theorem v_strings_Repeat:Valid Go.Proofs.Tryz.prog gl 206 ct_strings_Repeat:=by
 refine told_flat (enters_of Go.Proofs.Tryz.func206 (by kernel_rfl) (by kernel_rfl)) (fun _ _ _ _ _ _=>trivial) (fun w M0 W0 us x γ hl hW ha r hr=> ?_)
 obtain⟨s,c,q⟩:=x
 obtain⟨u1,_,rfl,⟨c1,h1,h1'⟩,u2,_,rfl,⟨c2,h2,h2'⟩,rfl⟩:=ha
 cases h1';cases h2';subst h1;subst h2
 unfold S.strings_Repeat at hr
 split at hr
 case isFalse=>cases hr
 rename_i hc
 obtain⟨g0,g1,g2⟩:=hc
 dsimp only at g0 g1 g2 hr
 cases hr
 obtain⟨n,rfl⟩:∃n:Nat,c=(n:Int):=⟨c.toNat,(Int.toNat_of_nonneg g0).symm⟩
 have hm:s.size*n≤1000000*1000000:=Nat.mul_le_mul g2 (by omega)
 refine(Go.Proofs.Tryz.strings_Repeat s n w (by omega) (by omega)).mono ?_
 rintro e w' ⟨rfl,hb⟩
 exact⟨[_],rfl,hb,fun M'=>⟨[_],rfl,fun _=>rfl,rfl⟩⟩
def ct_slices_Reverse__string_string:Ct:=⟨[PK.mu Kd.str],true,[],S.slices_Reverse__string_string,[]⟩
theorem v_slices_Reverse__string_string:Valid Go.Proofs.Tryz.prog gl 207 ct_slices_Reverse__string_string:=by
 refine Valid.less (ps:=[PK.mu Kd.str]) (tup:=true) (rs:=[]) (ar:=[]) (g:=P.slices_Reverse__string_string) (fun k=>valid (fx:=⟨⟨Go.Proofs.Tryz.prog,td,[],[],[]⟩,k,[(1,[(2,Sp.dat false (Kd.int IntKind.i64)),(3,Sp.dat false (Kd.int IntKind.i64)),(0,Sp.own (0) false Kd.str)])]⟩) (fn:=Go.Proofs.Tryz.f207) (c:=Go.Proofs.Tryz.f207.body.getD .skip) mixed tdOk (ctsNil _ _ _ _ _) Go.Proofs.Tryz.func207 (by kernel_rfl) (by kernel_rfl) (fun x=> ?_)) S.slices_Reverse__string_string_ok
 kernel_rfl
def ct_i_nat_trim:Ct:=⟨[PK.ro (Kd.sl (Kd.int IntKind.u32))],false,[(false,[RC.ro (Kd.sl (Kd.int IntKind.u32))])],S.i_nat_trim,[]⟩
theorem v_i_nat_trim:Valid Go.Proofs.Tryz.prog gl 196 ct_i_nat_trim:=by
 refine Valid.less (ps:=[PK.ro (Kd.sl (Kd.int IntKind.u32))]) (tup:=false) (rs:=[(false,[RC.ro (Kd.sl (Kd.int IntKind.u32))])]) (ar:=[]) (g:=P.i_nat_trim) (fun k=>valid (fx:=⟨⟨Go.Proofs.Tryz.prog,td,[],[],[]⟩,k,[(1,[(0,Sp.dat false (Kd.sl (Kd.int IntKind.u32)))])]⟩) (fn:=Go.Proofs.Tryz.f196) (c:=Go.Proofs.Tryz.f196.body.getD .skip) mixed tdOk (ctsNil _ _ _ _ _) Go.Proofs.Tryz.func196 (by kernel_rfl) (by kernel_rfl) (fun x=> ?_)) S.i_nat_trim_ok
 kernel_rfl
def ct_i_nat_divSmall:Ct:=⟨[PK.bo (Kd.sl (Kd.int IntKind.u32)),PK.ro (Kd.int IntKind.u32)],true,[(false,[RC.ro (Kd.sl (Kd.int IntKind.u32))]),(false,[RC.ro (Kd.int IntKind.u32)])],S.i_nat_divSmall,[]⟩
theorem v_i_nat_divSmall:Valid Go.Proofs.Tryz.prog gl 204 ct_i_nat_divSmall:=by
 refine Valid.less (ps:=[PK.bo (Kd.sl (Kd.int IntKind.u32)),PK.ro (Kd.int IntKind.u32)]) (tup:=true) (rs:=[(false,[RC.ro (Kd.sl (Kd.int IntKind.u32))]),(false,[RC.ro (Kd.int IntKind.u32)])]) (ar:=[]) (g:=P.i_nat_divSmall) (fun k=>valid (fx:=⟨⟨Go.Proofs.Tryz.prog,td,[(196,ct_i_nat_trim)],[],[]⟩,k,[(3,[(8,Sp.dat false (Kd.int IntKind.i64)),(7,Sp.dat false (Kd.int IntKind.u64)),(0,Sp.dat true (Kd.sl (Kd.int IntKind.u32))),(6,Sp.own (88) true (Kd.int IntKind.u32)),(1,Sp.dat false (Kd.int IntKind.u32))])]⟩) (fn:=Go.Proofs.Tryz.f204) (c:=Go.Proofs.Tryz.f204.body.getD .skip) mixed tdOk (ctsCons v_i_nat_trim (ctsNil _ _ _ _ _)) Go.Proofs.Tryz.func204 (by kernel_rfl) (by kernel_rfl) (fun x=> ?_)) S.i_nat_divSmall_ok
 kernel_rfl
def ct_i_nat_text:Ct:=⟨[PK.bo (Kd.sl (Kd.int IntKind.u32))],false,[(false,[RC.ro Kd.str])],S.i_nat_text,[]⟩
theorem v_i_nat_text (hP:InP gl):Valid Go.Proofs.Tryz.prog gl 188 ct_i_nat_text:=by
 refine Valid.less (ps:=[PK.bo (Kd.sl (Kd.int IntKind.u32))]) (tup:=false) (rs:=[(false,[RC.ro Kd.str])]) (ar:=[]) (g:=P.i_nat_text) (fun k=>valid (fx:=⟨⟨Go.Proofs.Tryz.prog,td,[(205,ct_strconv_FormatUint),(208,ct_strings_Join),(206,ct_strings_Repeat),(207,ct_slices_Reverse__string_string),(204,ct_i_nat_divSmall)],[],[]⟩,k,[(4,[(0,Sp.dat true (Kd.sl (Kd.int IntKind.u32))),(3,Sp.own (80) true Kd.str)])]⟩) (fn:=Go.Proofs.Tryz.f188) (c:=Go.Proofs.Tryz.f188.body.getD .skip) mixed tdOk (ctsCons (v_strconv_FormatUint hP) (ctsCons v_strings_Join (ctsCons v_strings_Repeat (ctsCons v_slices_Reverse__string_string (ctsCons v_i_nat_divSmall (ctsNil _ _ _ _ _)))))) Go.Proofs.Tryz.func188 (by kernel_rfl) (by kernel_rfl) (fun x=> ?_)) S.i_nat_text_ok
 kernel_rfl
def ct_i_rat_text:Ct:=⟨[PK.bo KR],true,[(false,[RC.ro Kd.str]),(false,[RC.ro Kd.bool])],S.i_rat_text,[]⟩
theorem v_i_rat_text (hP:InP gl):Valid Go.Proofs.Tryz.prog gl 140 ct_i_rat_text:=by
 refine Valid.less (ps:=[PK.bo KR]) (tup:=true) (rs:=[(false,[RC.ro Kd.str]),(false,[RC.ro Kd.bool])]) (ar:=[]) (g:=P.i_rat_text) (fun k=>valid (fx:=⟨⟨Go.Proofs.Tryz.prog,td,[(188,ct_i_nat_text)],[],[]⟩,k,[]⟩) (fn:=Go.Proofs.Tryz.f140) (c:=Go.Proofs.Tryz.f140.body.getD .skip) mixed tdOk (ctsCons (v_i_nat_text hP) (ctsNil _ _ _ _ _)) Go.Proofs.Tryz.func140 (by kernel_rfl) (by kernel_rfl) (fun x=> ?_)) S.i_rat_text_ok
 kernel_rfl
def ct_i_toldList:Ct:=⟨[PK.bo (Kd.sl KR)],true,[(false,[RC.own Kd.str]),(false,[RC.ro Kd.bool])],S.i_toldList,[]⟩
theorem v_i_toldList (hP:InP gl):Valid Go.Proofs.Tryz.prog gl 80 ct_i_toldList:=by
 refine Valid.less (ps:=[PK.bo (Kd.sl KR)]) (tup:=true) (rs:=[(false,[RC.own Kd.str]),(false,[RC.ro Kd.bool])]) (ar:=[]) (g:=P.i_toldList) (fun k=>valid (fx:=⟨⟨Go.Proofs.Tryz.prog,td,[(140,ct_i_rat_text)],[],[]⟩,k,[(3,[(12,Sp.dat false (Kd.int IntKind.i64)),(11,Sp.dat false (Kd.int IntKind.i64)),(10,Sp.dat true (Kd.sl KR)),(4,Sp.own (72) true Kd.str)])]⟩) (fn:=Go.Proofs.Tryz.f80) (c:=Go.Proofs.Tryz.f80.body.getD .skip) mixed tdOk (ctsCons (v_i_rat_text hP) (ctsNil _ _ _ _ _)) Go.Proofs.Tryz.func80 (by kernel_rfl) (by kernel_rfl) (fun x=> ?_)) S.i_toldList_ok
 kernel_rfl
def ct_math_bits_Mul64:Ct:=⟨[PK.ro (Kd.int IntKind.u64),PK.ro (Kd.int IntKind.u64)],true,[(false,[RC.ro (Kd.int IntKind.u64)]),(false,[RC.ro (Kd.int IntKind.u64)])],S.math_bits_Mul64,[]⟩
theorem v_math_bits_Mul64:Valid Go.Proofs.Tryz.prog gl 190 ct_math_bits_Mul64:=by
 refine Valid.less (ps:=[PK.ro (Kd.int IntKind.u64),PK.ro (Kd.int IntKind.u64)]) (tup:=true) (rs:=[(false,[RC.ro (Kd.int IntKind.u64)]),(false,[RC.ro (Kd.int IntKind.u64)])]) (ar:=[]) (g:=P.math_bits_Mul64) (fun k=>valid (fx:=⟨⟨Go.Proofs.Tryz.prog,td,[],[],[]⟩,k,[]⟩) (fn:=Go.Proofs.Tryz.f190) (c:=Go.Proofs.Tryz.f190.body.getD .skip) mixed tdOk (ctsNil _ _ _ _ _) Go.Proofs.Tryz.func190 (by kernel_rfl) (by kernel_rfl) (fun x=> ?_)) S.math_bits_Mul64_ok
 kernel_rfl
def ct_math_bits_Mul:Ct:=⟨[PK.ro (Kd.int IntKind.u64),PK.ro (Kd.int IntKind.u64)],true,[(false,[RC.ro (Kd.int IntKind.u64)]),(false,[RC.ro (Kd.int IntKind.u64)])],S.math_bits_Mul,[]⟩
theorem v_math_bits_Mul:Valid Go.Proofs.Tryz.prog gl 146 ct_math_bits_Mul:=by
 refine Valid.less (ps:=[PK.ro (Kd.int IntKind.u64),PK.ro (Kd.int IntKind.u64)]) (tup:=true) (rs:=[(false,[RC.ro (Kd.int IntKind.u64)]),(false,[RC.ro (Kd.int IntKind.u64)])]) (ar:=[]) (g:=P.math_bits_Mul) (fun k=>valid (fx:=⟨⟨Go.Proofs.Tryz.prog,td,[(190,ct_math_bits_Mul64)],[],[]⟩,k,[]⟩) (fn:=Go.Proofs.Tryz.f146) (c:=Go.Proofs.Tryz.f146.body.getD .skip) mixed tdOk (ctsCons v_math_bits_Mul64 (ctsNil _ _ _ _ _)) Go.Proofs.Tryz.func146 (by kernel_rfl) (by kernel_rfl) (fun x=> ?_)) S.math_bits_Mul_ok
 kernel_rfl
def ct_slices_Repeat__i_rat_i_rat:Ct:=⟨[PK.ro (Kd.sl KR),PK.ro (Kd.int IntKind.i64)],false,[(false,[RC.own KR])],S.slices_Repeat__i_rat_i_rat,[]⟩
theorem v_slices_Repeat__i_rat_i_rat:Valid Go.Proofs.Tryz.prog gl 125 ct_slices_Repeat__i_rat_i_rat:=by
 refine Valid.less (ps:=[PK.ro (Kd.sl KR),PK.ro (Kd.int IntKind.i64)]) (tup:=false) (rs:=[(false,[RC.own KR])]) (ar:=[]) (g:=PP.slices_Repeat__i_rat_i_rat) (fun k=>valid (fx:=⟨⟨Go.Proofs.Tryz.prog,td,[(146,ct_math_bits_Mul)],[],[]⟩,k,[(8,[(8,Sp.dat false (Kd.int IntKind.i64)),(7,Sp.own (240) true KR)])]⟩) (fn:=Go.Proofs.Tryz.f125) (c:=Go.Proofs.Tryz.f125.body.getD .skip) mixed tdOk (ctsCons v_math_bits_Mul (ctsNil _ _ _ _ _)) Go.Proofs.Tryz.func125 (by kernel_rfl) (by kernel_rfl) (fun x=> ?_)) (fun x r h=>(S.slices_Repeat__i_rat_i_rat_ok x r h).imp fun k hk=>(PP.slices_Repeat__i_rat_i_rat_eq k x).trans hk)
 kernel_rfl
def ct_i_magnitude:Ct:=⟨[PK.ro (Kd.int IntKind.i64)],false,[(false,[RC.ro (Kd.int IntKind.u64)])],S.i_magnitude,[]⟩
theorem v_i_magnitude:Valid Go.Proofs.Tryz.prog gl 175 ct_i_magnitude:=by
 refine Valid.less (ps:=[PK.ro (Kd.int IntKind.i64)]) (tup:=false) (rs:=[(false,[RC.ro (Kd.int IntKind.u64)])]) (ar:=[]) (g:=P.i_magnitude) (fun k=>valid (fx:=⟨⟨Go.Proofs.Tryz.prog,td,[],[],[]⟩,k,[]⟩) (fn:=Go.Proofs.Tryz.f175) (c:=Go.Proofs.Tryz.f175.body.getD .skip) mixed tdOk (ctsNil _ _ _ _ _) Go.Proofs.Tryz.func175 (by kernel_rfl) (by kernel_rfl) (fun x=> ?_)) S.i_magnitude_ok
 kernel_rfl
def ct_i_natOf:Ct:=⟨[PK.ro (Kd.int IntKind.u64)],false,[(false,[RC.ro (Kd.sl (Kd.int IntKind.u32))])],S.i_natOf,[]⟩
theorem v_i_natOf:Valid Go.Proofs.Tryz.prog gl 174 ct_i_natOf:=by
 refine Valid.less (ps:=[PK.ro (Kd.int IntKind.u64)]) (tup:=false) (rs:=[(false,[RC.ro (Kd.sl (Kd.int IntKind.u32))])]) (ar:=[]) (g:=P.i_natOf) (fun k=>valid (fx:=⟨⟨Go.Proofs.Tryz.prog,td,[(196,ct_i_nat_trim)],[],[]⟩,k,[]⟩) (fn:=Go.Proofs.Tryz.f174) (c:=Go.Proofs.Tryz.f174.body.getD .skip) mixed tdOk (ctsCons v_i_nat_trim (ctsNil _ _ _ _ _)) Go.Proofs.Tryz.func174 (by kernel_rfl) (by kernel_rfl) (fun x=> ?_)) S.i_natOf_ok
 kernel_rfl
def ct_i_whole:Ct:=⟨[PK.ro (Kd.int IntKind.i64)],false,[(true,[RC.ro KR])],S.i_whole,[]⟩
theorem v_i_whole:Valid Go.Proofs.Tryz.prog gl 120 ct_i_whole:=by
 refine Valid.less (ps:=[PK.ro (Kd.int IntKind.i64)]) (tup:=false) (rs:=[(true,[RC.ro KR])]) (ar:=[]) (g:=P.i_whole) (fun k=>valid (fx:=⟨⟨Go.Proofs.Tryz.prog,td,[(175,ct_i_magnitude),(174,ct_i_natOf)],[],[]⟩,k,[]⟩) (fn:=Go.Proofs.Tryz.f120) (c:=Go.Proofs.Tryz.f120.body.getD .skip) mixed tdOk (ctsCons v_i_magnitude (ctsCons v_i_natOf (ctsNil _ _ _ _ _))) Go.Proofs.Tryz.func120 (by kernel_rfl) (by kernel_rfl) (fun x=> ?_)) S.i_whole_ok
 kernel_rfl
def ct_i_rat_sign:Ct:=⟨[PK.bo KR],false,[(false,[RC.ro (Kd.int IntKind.i64)])],S.i_rat_sign,[]⟩
theorem v_i_rat_sign:Valid Go.Proofs.Tryz.prog gl 79 ct_i_rat_sign:=by
 refine Valid.less (ps:=[PK.bo KR]) (tup:=false) (rs:=[(false,[RC.ro (Kd.int IntKind.i64)])]) (ar:=[]) (g:=P.i_rat_sign) (fun k=>valid (fx:=⟨⟨Go.Proofs.Tryz.prog,td,[],[],[]⟩,k,[]⟩) (fn:=Go.Proofs.Tryz.f79) (c:=Go.Proofs.Tryz.f79.body.getD .skip) mixed tdOk (ctsNil _ _ _ _ _) Go.Proofs.Tryz.func79 (by kernel_rfl) (by kernel_rfl) (fun x=> ?_)) S.i_rat_sign_ok
 kernel_rfl
def ct_i_nat_cmp:Ct:=⟨[PK.bo (Kd.sl (Kd.int IntKind.u32)),PK.bo (Kd.sl (Kd.int IntKind.u32))],false,[(false,[RC.ro (Kd.int IntKind.i64)])],S.i_nat_cmp,[]⟩
theorem v_i_nat_cmp:Valid Go.Proofs.Tryz.prog gl 171 ct_i_nat_cmp:=by
 refine Valid.less (ps:=[PK.bo (Kd.sl (Kd.int IntKind.u32)),PK.bo (Kd.sl (Kd.int IntKind.u32))]) (tup:=false) (rs:=[(false,[RC.ro (Kd.int IntKind.i64)])]) (ar:=[]) (g:=P.i_nat_cmp) (fun k=>valid (fx:=⟨⟨Go.Proofs.Tryz.prog,td,[],[],[]⟩,k,[(6,[(5,Sp.dat false (Kd.int IntKind.i64)),(0,Sp.dat true (Kd.sl (Kd.int IntKind.u32))),(1,Sp.dat true (Kd.sl (Kd.int IntKind.u32)))])]⟩) (fn:=Go.Proofs.Tryz.f171) (c:=Go.Proofs.Tryz.f171.body.getD .skip) mixed tdOk (ctsNil _ _ _ _ _) Go.Proofs.Tryz.func171 (by kernel_rfl) (by kernel_rfl) (fun x=> ?_)) S.i_nat_cmp_ok
 kernel_rfl
def ct_i_nat_sub:Ct:=⟨[PK.bo (Kd.sl (Kd.int IntKind.u32)),PK.bo (Kd.sl (Kd.int IntKind.u32))],false,[(false,[RC.ro (Kd.sl (Kd.int IntKind.u32))])],S.i_nat_sub,[]⟩
theorem v_i_nat_sub:Valid Go.Proofs.Tryz.prog gl 173 ct_i_nat_sub:=by
 refine Valid.less (ps:=[PK.bo (Kd.sl (Kd.int IntKind.u32)),PK.bo (Kd.sl (Kd.int IntKind.u32))]) (tup:=false) (rs:=[(false,[RC.ro (Kd.sl (Kd.int IntKind.u32))])]) (ar:=[]) (g:=P.i_nat_sub) (fun k=>valid (fx:=⟨⟨Go.Proofs.Tryz.prog,td,[(196,ct_i_nat_trim)],[],[]⟩,k,[(3,[(14,Sp.dat false (Kd.int IntKind.i64)),(13,Sp.dat false (Kd.int IntKind.i64)),(0,Sp.dat true (Kd.sl (Kd.int IntKind.u32))),(6,Sp.dat false (Kd.int IntKind.i64)),(1,Sp.dat true (Kd.sl (Kd.int IntKind.u32))),(5,Sp.own (88) true (Kd.int IntKind.u32))])]⟩) (fn:=Go.Proofs.Tryz.f173) (c:=Go.Proofs.Tryz.f173.body.getD .skip) mixed tdOk (ctsCons v_i_nat_trim (ctsNil _ _ _ _ _)) Go.Proofs.Tryz.func173 (by kernel_rfl) (by kernel_rfl) (fun x=> ?_)) S.i_nat_sub_ok
 kernel_rfl
def ct_i_nat_add:Ct:=⟨[PK.bo (Kd.sl (Kd.int IntKind.u32)),PK.bo (Kd.sl (Kd.int IntKind.u32))],false,[(false,[RC.ro (Kd.sl (Kd.int IntKind.u32))])],S.i_nat_add,[]⟩
theorem v_i_nat_add:Valid Go.Proofs.Tryz.prog gl 172 ct_i_nat_add:=by
 refine Valid.less (ps:=[PK.bo (Kd.sl (Kd.int IntKind.u32)),PK.bo (Kd.sl (Kd.int IntKind.u32))]) (tup:=false) (rs:=[(false,[RC.ro (Kd.sl (Kd.int IntKind.u32))])]) (ar:=[]) (g:=P.i_nat_add) (fun k=>valid (fx:=⟨⟨Go.Proofs.Tryz.prog,td,[(196,ct_i_nat_trim)],[],[]⟩,k,[(5,[(21,Sp.dat false (Kd.int IntKind.i64)),(20,Sp.dat false (Kd.int IntKind.i64)),(6,Sp.dat false (Kd.int IntKind.u64)),(0,Sp.dat true (Kd.sl (Kd.int IntKind.u32))),(1,Sp.dat true (Kd.sl (Kd.int IntKind.u32))),(5,Sp.own (144) true (Kd.int IntKind.u32))])]⟩) (fn:=Go.Proofs.Tryz.f172) (c:=Go.Proofs.Tryz.f172.body.getD .skip) mixed tdOk (ctsCons v_i_nat_trim (ctsNil _ _ _ _ _)) Go.Proofs.Tryz.func172 (by kernel_rfl) (by kernel_rfl) (fun x=> ?_)) S.i_nat_add_ok
 kernel_rfl
def ct_i_nat_mul:Ct:=⟨[PK.bo (Kd.sl (Kd.int IntKind.u32)),PK.bo (Kd.sl (Kd.int IntKind.u32))],false,[(false,[RC.ro (Kd.sl (Kd.int IntKind.u32))])],S.i_nat_mul,[]⟩
theorem v_i_nat_mul:Valid Go.Proofs.Tryz.prog gl 170 ct_i_nat_mul:=by
 refine Valid.less (ps:=[PK.bo (Kd.sl (Kd.int IntKind.u32)),PK.bo (Kd.sl (Kd.int IntKind.u32))]) (tup:=false) (rs:=[(false,[RC.ro (Kd.sl (Kd.int IntKind.u32))])]) (ar:=[]) (g:=P.i_nat_mul) (fun k=>valid (fx:=⟨⟨Go.Proofs.Tryz.prog,td,[(196,ct_i_nat_trim)],[],[]⟩,k,[(7,[(26,Sp.dat false (Kd.int IntKind.i64)),(25,Sp.dat false (Kd.int IntKind.i64)),(24,Sp.dat true (Kd.sl (Kd.int IntKind.u32))),(8,Sp.dat false (Kd.int IntKind.u64)),(7,Sp.dat false (Kd.int IntKind.u32)),(5,Sp.own (128) true (Kd.int IntKind.u32)),(6,Sp.dat false (Kd.int IntKind.i64)),(1,Sp.dat true (Kd.sl (Kd.int IntKind.u32))),(19,Sp.dat false (Kd.int IntKind.i64)),(18,Sp.dat false (Kd.int IntKind.i64)),(17,Sp.dat true (Kd.sl (Kd.int IntKind.u32)))]),(3,[(19,Sp.dat false (Kd.int IntKind.i64)),(18,Sp.dat false (Kd.int IntKind.i64)),(17,Sp.dat true (Kd.sl (Kd.int IntKind.u32))),(1,Sp.dat true (Kd.sl (Kd.int IntKind.u32))),(5,Sp.own (128) true (Kd.int IntKind.u32))])]⟩) (fn:=Go.Proofs.Tryz.f170) (c:=Go.Proofs.Tryz.f170.body.getD .skip) mixed tdOk (ctsCons v_i_nat_trim (ctsNil _ _ _ _ _)) Go.Proofs.Tryz.func170 (by kernel_rfl) (by kernel_rfl) (fun x=> ?_)) S.i_nat_mul_ok
 kernel_rfl
def ct_math_bits_LeadingZeros32:Ct:=⟨[PK.ro (Kd.int IntKind.u32)],false,[(false,[RC.ro (Kd.int IntKind.i64)])],S.math_bits_LeadingZeros32,[]⟩
theorem v_math_bits_LeadingZeros32:Valid Go.Proofs.Tryz.prog gl 214 ct_math_bits_LeadingZeros32:=by
 refine told_flat (enters_of Go.Proofs.Tryz.func214 (by kernel_rfl) (by kernel_rfl)) (fun _ _ _ _ _ _=>trivial) (fun w M0 W0 us x γ hl hW ha r hr=> ?_)
 obtain⟨n,q⟩:=x
 obtain⟨u1,_,rfl,⟨c1,h1,h1'⟩,rfl⟩:=ha
 cases h1';subst h1
 unfold S.math_bits_LeadingZeros32 at hr
 split at hr
 case isFalse=>cases hr
 rename_i hc
 cases hr
 refine(Go.Proofs.Tryz.bits_LeadingZeros32 n w hc.1 hc.2).mono ?_
 rintro e w' ⟨rfl,rfl⟩
 exact⟨[_],rfl,Below.refl _ _,fun M'=>⟨[_],rfl,fun _=>rfl,rfl⟩⟩
def ct_i_nat_shifted:Ct:=⟨[PK.bo (Kd.sl (Kd.int IntKind.u32)),PK.ro (Kd.int IntKind.i64)],false,[(false,[RC.own (Kd.int IntKind.u32)])],S.i_nat_shifted,[]⟩
theorem v_i_nat_shifted:Valid Go.Proofs.Tryz.prog gl 215 ct_i_nat_shifted:=by
 refine Valid.less (ps:=[PK.bo (Kd.sl (Kd.int IntKind.u32)),PK.ro (Kd.int IntKind.i64)]) (tup:=false) (rs:=[(false,[RC.own (Kd.int IntKind.u32)])]) (ar:=[]) (g:=P.i_nat_shifted) (fun k=>valid (fx:=⟨⟨Go.Proofs.Tryz.prog,td,[],[],[]⟩,k,[(3,[(15,Sp.dat false (Kd.int IntKind.i64)),(14,Sp.dat false (Kd.int IntKind.i64)),(13,Sp.dat true (Kd.sl (Kd.int IntKind.u32))),(1,Sp.dat false (Kd.int IntKind.i64)),(5,Sp.own (96) true (Kd.int IntKind.u32))])]⟩) (fn:=Go.Proofs.Tryz.f215) (c:=Go.Proofs.Tryz.f215.body.getD .skip) mixed tdOk (ctsNil _ _ _ _ _) Go.Proofs.Tryz.func215 (by kernel_rfl) (by kernel_rfl) (fun x=> ?_)) S.i_nat_shifted_ok
 kernel_rfl
def ct_i_takeAway:Ct:=⟨[PK.mu (Kd.int IntKind.u32),PK.bo (Kd.sl (Kd.int IntKind.u32)),PK.ro (Kd.int IntKind.u64)],false,[(false,[RC.ro Kd.bool])],S.i_takeAway,[]⟩
theorem v_i_takeAway:Valid Go.Proofs.Tryz.prog gl 216 ct_i_takeAway:=by
 refine Valid.less (ps:=[PK.mu (Kd.int IntKind.u32),PK.bo (Kd.sl (Kd.int IntKind.u32)),PK.ro (Kd.int IntKind.u64)]) (tup:=false) (rs:=[(false,[RC.ro Kd.bool])]) (ar:=[]) (g:=P.i_takeAway) (fun k=>valid (fx:=⟨⟨Go.Proofs.Tryz.prog,td,[],[],[]⟩,k,[(18,[(59,Sp.dat false (Kd.int IntKind.i64)),(58,Sp.dat false (Kd.int IntKind.i64)),(7,Sp.dat false (Kd.int IntKind.u64)),(0,Sp.own (0) false (Kd.int IntKind.u32)),(1,Sp.dat true (Kd.sl (Kd.int IntKind.u32)))]),(3,[(14,Sp.dat false (Kd.int IntKind.i64)),(13,Sp.dat false (Kd.int IntKind.i64)),(1,Sp.dat true (Kd.sl (Kd.int IntKind.u32))),(7,Sp.dat false (Kd.int IntKind.u64)),(2,Sp.dat false (Kd.int IntKind.u64)),(0,Sp.own (0) false (Kd.int IntKind.u32)),(8,Sp.dat false (Kd.int IntKind.i64))])]⟩) (fn:=Go.Proofs.Tryz.f216) (c:=Go.Proofs.Tryz.f216.body.getD .skip) mixed tdOk (ctsNil _ _ _ _ _) Go.Proofs.Tryz.func216 (by kernel_rfl) (by kernel_rfl) (fun x=> ?_)) S.i_takeAway_ok
 kernel_rfl
def ct_i_nat_div:Ct:=⟨[PK.ro (Kd.sl (Kd.int IntKind.u32)),PK.ro (Kd.sl (Kd.int IntKind.u32))],true,[(false,[RC.ro (Kd.sl (Kd.int IntKind.u32))]),(false,[RC.ro (Kd.sl (Kd.int IntKind.u32))])],S.i_nat_div,[]⟩
theorem trimN_snoc (xs:List Int) (x:Int):trimN (xs++[x])=if x=0 then trimN xs else xs.length+1:=by
 unfold trimN
 rw[List.reverse_append]
 by_cases h:x=0
 ·simp [h]
 ·simp [h]
theorem trimN_le (xs:List Int):trimN xs≤xs.length:=by
 unfold trimN
 have:=(List.dropWhile_sublist (fun x:Int=>x==0) (l:=xs.reverse)).length_le
 simpa using this
def lenOfV:Value→Nat
 | .slice _ m _=>m
 |_=>0
set_option maxHeartbeats 800000 in
set_option maxRecDepth 100000 in
theorem trim_calls (b o real:Nat) (xs:List Int) (w:World) (hle:xs.length≤real) (hbig:xs.length≤1000000000000) (hc:∀(i:Nat) (x:Int),xs[i]? =some x→w.cell? ⟨b,o+i,none⟩=some (.int .u32 x)):
  Calls Go.Proofs.Tryz.prog 196 #[.slice (some ⟨b,o,none⟩) xs.length real] w fun e w'=>e= .returned (.slice (some ⟨b,o,none⟩) (trimN xs) real)∧w'=w:=by
 go_enter Go.Proofs.Tryz.func196,Go.Proofs.Tryz.ntmps196
 go_wp2
 go_loopw [0] (fun v wr=>∃m:Nat,m≤xs.length∧v= .slice (some ⟨b,o,none⟩) m real∧wr=w∧trimN (xs.take m)=trimN xs) (fun v _=>lenOfV v)
 case atStart=>exact⟨xs.length,Nat.le_refl _,rfl,rfl,by rw[List.take_length]⟩
 case round=>
  obtain⟨m,hm,rfl,rfl,ht⟩:=hrel
  by_cases h0:0<m
  ·obtain⟨k,rfl⟩:∃k,m=k+1:=⟨m - 1,by omega⟩
   have hx:xs[k]? =some xs[k]:=List.getElem?_eq_getElem (by omega)
   have hcx:=hc k _ hx
   have hw:wrap64 (((k+1:Nat):Int) - 1)=(k:Int):=by
    have e:((k+1:Nat):Int) - 1=(k:Int):=by omega
    rw[e]
    exact IntWalk.wrap64_in _ (by omega)
   have ht':trimN (xs.take (k+1))=if xs[k]=0 then trimN (xs.take k)else k+1:=by
    rw[←List.take_append_getElem (show k<xs.length by omega),trimN_snoc]
    have:(xs.take k).length=k:=by simp;omega
    rw[this]
   go_wp2
   ·have hz:(xs[k]==0)=true:=by assumption
    have hz':xs[k]=0:=by simpa using hz
    rw[if_pos hz']at ht'
    exact⟨⟨k,by omega,rfl,trivial,by rw[←ht',ht]⟩,Nat.lt_succ_self k⟩
   ·have hz:(xs[k]==0)=false:=by assumption
    have hz':¬xs[k]=0:=by simpa using hz
    rw[if_neg hz']at ht'
    rw[←ht,ht']
    go_ret
    exact⟨rfl,rfl⟩
  ·have h1:m=0:=by omega
   subst h1
   go_wp2
   have h2:trimN xs=0:=by rw[←ht];rfl
   rw[h2]
   go_ret
   exact⟨rfl,rfl⟩
set_option maxHeartbeats 800000 in
set_option maxRecDepth 100000 in
theorem trim_calls0 (A:Option Addr) (real:Nat) (w:World):
  Calls Go.Proofs.Tryz.prog 196 #[.slice A 0 real] w fun e w'=>e= .returned (.slice A 0 real)∧w'=w:=by
 go_enter Go.Proofs.Tryz.func196,Go.Proofs.Tryz.ntmps196
 go_wp2
 refine wp_loop_rounds 1 ?_
 rw[rounds_succ]
 go_wp2
 go_ret
 exact⟨rfl,rfl⟩
theorem shr_trim:ShrOk Go.Proofs.Tryz.prog 196 IntKind.u32 trimN:=by
 refine⟨enters_of Go.Proofs.Tryz.func196 (by kernel_rfl) (by kernel_rfl),fun w u xs A real hbig hsl hno hc=> ?_⟩
 obtain⟨A',rfl,hle,hA⟩:=hsl
 rcases Nat.eq_zero_or_pos real with h0|h0
 ·have h1:xs=[]:=List.eq_nil_of_length_eq_zero (by omega)
  subst h1
  refine(trim_calls0 A' real w).mono ?_
  rintro e w' ⟨rfl,rfl⟩
  exact⟨rfl,Nat.le_refl _,_,rfl,rfl,A',rfl,Nat.zero_le _,fun h=>by omega⟩
 ·obtain⟨b,o,rfl,rfl⟩:=hA h0
  refine(trim_calls b o real xs w hle hbig (hc b o rfl)).mono ?_
  rintro e w' ⟨rfl,rfl⟩
  have:=trimN_le xs
  exact⟨rfl,this,_,rfl,rfl,_,rfl,by omega,fun _=>⟨b,o,rfl,rfl⟩⟩
theorem v_i_nat_div:Valid Go.Proofs.Tryz.prog gl 195 ct_i_nat_div:=by
 refine Valid.less (ps:=[PK.ro (Kd.sl (Kd.int IntKind.u32)),PK.ro (Kd.sl (Kd.int IntKind.u32))]) (tup:=true) (rs:=[(false,[RC.ro (Kd.sl (Kd.int IntKind.u32))]),(false,[RC.ro (Kd.sl (Kd.int IntKind.u32))])]) (ar:=[]) (g:=P.i_nat_div) (fun k=>valid (fx:=⟨⟨Go.Proofs.Tryz.prog,td,[(214,ct_math_bits_LeadingZeros32),(196,ct_i_nat_trim),(171,ct_i_nat_cmp),(204,ct_i_nat_divSmall),(215,ct_i_nat_shifted),(216,ct_i_takeAway)],[],[(196,IntKind.u32,trimN)]⟩,k,[(26,[(148,Sp.dat false (Kd.int IntKind.i64)),(147,Sp.dat false (Kd.int IntKind.i64)),(9,Sp.own (400) true (Kd.int IntKind.u32)),(8,Sp.dat false (Kd.int IntKind.i64)),(13,Sp.own (592) true (Kd.int IntKind.u32))]),(17,[(17,Sp.dat false (Kd.int IntKind.u64)),(12,Sp.dat false (Kd.int IntKind.u64)),(18,Sp.dat false (Kd.int IntKind.u64)),(9,Sp.own (400) true (Kd.int IntKind.u32)),(15,Sp.dat false (Kd.int IntKind.i64)),(11,Sp.dat false (Kd.int IntKind.u64)),(14,Sp.dat false (Kd.int IntKind.i64)),(10,Sp.dat false (Kd.sl (Kd.int IntKind.u32))),(13,Sp.own (592) true (Kd.int IntKind.u32)),(8,Sp.dat false (Kd.int IntKind.i64))]),(12,[(14,Sp.dat false (Kd.int IntKind.i64)),(10,Sp.dat false (Kd.sl (Kd.int IntKind.u32))),(9,Sp.own (400) true (Kd.int IntKind.u32)),(11,Sp.dat false (Kd.int IntKind.u64)),(12,Sp.dat false (Kd.int IntKind.u64)),(13,Sp.own (592) true (Kd.int IntKind.u32)),(8,Sp.dat false (Kd.int IntKind.i64))])]⟩) (fn:=Go.Proofs.Tryz.f195) (c:=Go.Proofs.Tryz.f195.body.getD .skip) mixed tdOk (ctsCons v_math_bits_LeadingZeros32 (ctsCons v_i_nat_trim (ctsCons v_i_nat_cmp (ctsCons v_i_nat_divSmall (ctsCons v_i_nat_shifted (ctsCons v_i_takeAway (ctsShr shr_trim))))))) Go.Proofs.Tryz.func195 (by kernel_rfl) (by kernel_rfl) (fun x=> ?_)) S.i_nat_div_ok
 kernel_rfl
def ct_i_nat_small:Ct:=⟨[PK.bo (Kd.sl (Kd.int IntKind.u32))],true,[(false,[RC.ro (Kd.int IntKind.u64)]),(false,[RC.ro Kd.bool])],S.i_nat_small,[]⟩
theorem v_i_nat_small:Valid Go.Proofs.Tryz.prog gl 203 ct_i_nat_small:=by
 refine Valid.less (ps:=[PK.bo (Kd.sl (Kd.int IntKind.u32))]) (tup:=true) (rs:=[(false,[RC.ro (Kd.int IntKind.u64)]),(false,[RC.ro Kd.bool])]) (ar:=[]) (g:=P.i_nat_small) (fun k=>valid (fx:=⟨⟨Go.Proofs.Tryz.prog,td,[],[],[]⟩,k,[(3,[(5,Sp.dat false (Kd.int IntKind.i64)),(0,Sp.dat true (Kd.sl (Kd.int IntKind.u32))),(4,Sp.dat false (Kd.int IntKind.u64))])]⟩) (fn:=Go.Proofs.Tryz.f203) (c:=Go.Proofs.Tryz.f203.body.getD .skip) mixed tdOk (ctsNil _ _ _ _ _) Go.Proofs.Tryz.func203 (by kernel_rfl) (by kernel_rfl) (fun x=> ?_)) S.i_nat_small_ok
 kernel_rfl
def ct_i_nat_gcd:Ct:=⟨[PK.ro (Kd.sl (Kd.int IntKind.u32)),PK.ro (Kd.sl (Kd.int IntKind.u32))],false,[(false,[RC.ro (Kd.sl (Kd.int IntKind.u32))])],S.i_nat_gcd,[]⟩
theorem v_i_nat_gcd:Valid Go.Proofs.Tryz.prog gl 187 ct_i_nat_gcd:=by
 refine Valid.less (ps:=[PK.ro (Kd.sl (Kd.int IntKind.u32)),PK.ro (Kd.sl (Kd.int IntKind.u32))]) (tup:=false) (rs:=[(false,[RC.ro (Kd.sl (Kd.int IntKind.u32))])]) (ar:=[]) (g:=P.i_nat_gcd) (fun k=>valid (fx:=⟨⟨Go.Proofs.Tryz.prog,td,[(174,ct_i_natOf),(203,ct_i_nat_small),(195,ct_i_nat_div)],[],[]⟩,k,[(5,[(7,Sp.dat false (Kd.int IntKind.u64)),(5,Sp.dat false (Kd.int IntKind.u64))]),(1,[(1,Sp.dat false (Kd.sl (Kd.int IntKind.u32))),(0,Sp.dat false (Kd.sl (Kd.int IntKind.u32)))])]⟩) (fn:=Go.Proofs.Tryz.f187) (c:=Go.Proofs.Tryz.f187.body.getD .skip) mixed tdOk (ctsCons v_i_natOf (ctsCons v_i_nat_small (ctsCons v_i_nat_div (ctsNil _ _ _ _ _)))) Go.Proofs.Tryz.func187 (by kernel_rfl) (by kernel_rfl) (fun x=> ?_)) S.i_nat_gcd_ok
 kernel_rfl
def ct_i_lowest:Ct:=⟨[PK.ro Kd.bool,PK.ro (Kd.sl (Kd.int IntKind.u32)),PK.ro (Kd.sl (Kd.int IntKind.u32))],false,[(true,[RC.ro KR])],S.i_lowest,[]⟩
theorem v_i_lowest:Valid Go.Proofs.Tryz.prog gl 169 ct_i_lowest:=by
 refine Valid.less (ps:=[PK.ro Kd.bool,PK.ro (Kd.sl (Kd.int IntKind.u32)),PK.ro (Kd.sl (Kd.int IntKind.u32))]) (tup:=false) (rs:=[(true,[RC.ro KR])]) (ar:=[]) (g:=P.i_lowest) (fun k=>valid (fx:=⟨⟨Go.Proofs.Tryz.prog,td,[(174,ct_i_natOf),(195,ct_i_nat_div),(187,ct_i_nat_gcd)],[],[]⟩,k,[]⟩) (fn:=Go.Proofs.Tryz.f169) (c:=Go.Proofs.Tryz.f169.body.getD .skip) mixed tdOk (ctsCons v_i_natOf (ctsCons v_i_nat_div (ctsCons v_i_nat_gcd (ctsNil _ _ _ _ _)))) Go.Proofs.Tryz.func169 (by kernel_rfl) (by kernel_rfl) (fun x=> ?_)) S.i_lowest_ok
 kernel_rfl
def ct_i_rat_add:Ct:=⟨[PK.ro KR,PK.ro KR],false,[(true,[RC.ro KR])],S.i_rat_add,[]⟩
theorem v_i_rat_add:Valid Go.Proofs.Tryz.prog gl 119 ct_i_rat_add:=by
 refine Valid.less (ps:=[PK.ro KR,PK.ro KR]) (tup:=false) (rs:=[(true,[RC.ro KR])]) (ar:=[]) (g:=P.i_rat_add) (fun k=>valid (fx:=⟨⟨Go.Proofs.Tryz.prog,td,[(171,ct_i_nat_cmp),(173,ct_i_nat_sub),(172,ct_i_nat_add),(170,ct_i_nat_mul),(169,ct_i_lowest),(79,ct_i_rat_sign)],[],[]⟩,k,[]⟩) (fn:=Go.Proofs.Tryz.f119) (c:=Go.Proofs.Tryz.f119.body.getD .skip) mixed tdOk (ctsCons v_i_nat_cmp (ctsCons v_i_nat_sub (ctsCons v_i_nat_add (ctsCons v_i_nat_mul (ctsCons v_i_lowest (ctsCons v_i_rat_sign (ctsNil _ _ _ _ _))))))) Go.Proofs.Tryz.func119 (by kernel_rfl) (by kernel_rfl) (fun x=> ?_)) S.i_rat_add_ok
 kernel_rfl
def ct_i_rat_mul:Ct:=⟨[PK.ro KR,PK.ro KR],false,[(true,[RC.ro KR])],S.i_rat_mul,[]⟩
theorem v_i_rat_mul:Valid Go.Proofs.Tryz.prog gl 118 ct_i_rat_mul:=by
 refine Valid.less (ps:=[PK.ro KR,PK.ro KR]) (tup:=false) (rs:=[(true,[RC.ro KR])]) (ar:=[]) (g:=P.i_rat_mul) (fun k=>valid (fx:=⟨⟨Go.Proofs.Tryz.prog,td,[(170,ct_i_nat_mul),(169,ct_i_lowest),(120,ct_i_whole),(79,ct_i_rat_sign)],[],[]⟩,k,[]⟩) (fn:=Go.Proofs.Tryz.f118) (c:=Go.Proofs.Tryz.f118.body.getD .skip) mixed tdOk (ctsCons v_i_nat_mul (ctsCons v_i_lowest (ctsCons v_i_whole (ctsCons v_i_rat_sign (ctsNil _ _ _ _ _))))) Go.Proofs.Tryz.func118 (by kernel_rfl) (by kernel_rfl) (fun x=> ?_)) S.i_rat_mul_ok
 kernel_rfl
def ct_i_stepped:Ct:=⟨[PK.ro (Kd.sl (Kd.sl KR)),PK.ro (Kd.sl KR)],false,[(false,[RC.ro (Kd.sl KR)])],S.i_stepped,[]⟩
theorem v_i_stepped:Valid Go.Proofs.Tryz.prog gl 160 ct_i_stepped:=by
 refine Valid.less (ps:=[PK.ro (Kd.sl (Kd.sl KR)),PK.ro (Kd.sl KR)]) (tup:=false) (rs:=[(false,[RC.ro (Kd.sl KR)])]) (ar:=[]) (g:=P.i_stepped) (fun k=>valid (fx:=⟨⟨Go.Proofs.Tryz.prog,td,[(125,ct_slices_Repeat__i_rat_i_rat),(120,ct_i_whole),(79,ct_i_rat_sign),(119,ct_i_rat_add),(118,ct_i_rat_mul)],[],[]⟩,k,[(7,[(30,Sp.dat false (Kd.int IntKind.i64)),(29,Sp.dat false (Kd.int IntKind.i64)),(28,Sp.dat false (Kd.sl KR)),(5,Sp.own (112) true KR),(7,Sp.var (56) KR),(17,Sp.dat false (Kd.int IntKind.i64)),(16,Sp.dat false (Kd.int IntKind.i64)),(15,Sp.dat false (Kd.sl KR)),(0,Sp.dat false (Kd.sl (Kd.sl KR)))]),(3,[(17,Sp.dat false (Kd.int IntKind.i64)),(16,Sp.dat false (Kd.int IntKind.i64)),(15,Sp.dat false (Kd.sl KR)),(0,Sp.dat false (Kd.sl (Kd.sl KR))),(5,Sp.own (112) true KR)])]⟩) (fn:=Go.Proofs.Tryz.f160) (c:=Go.Proofs.Tryz.f160.body.getD .skip) mixed tdOk (ctsCons v_slices_Repeat__i_rat_i_rat (ctsCons v_i_whole (ctsCons v_i_rat_sign (ctsCons v_i_rat_add (ctsCons v_i_rat_mul (ctsNil _ _ _ _ _)))))) Go.Proofs.Tryz.func160 (by kernel_rfl) (by kernel_rfl) (fun x=> ?_)) S.i_stepped_ok
 kernel_rfl
def ct_i_after:Ct:=⟨[PK.ro (Kd.sl (Kd.sl KR)),PK.ro (Kd.sl KR),PK.ro (Kd.int IntKind.i64)],false,[(false,[RC.ro (Kd.sl KR)])],S.i_after,[]⟩
theorem v_i_after:Valid Go.Proofs.Tryz.prog gl 109 ct_i_after:=by
 refine Valid.less (ps:=[PK.ro (Kd.sl (Kd.sl KR)),PK.ro (Kd.sl KR),PK.ro (Kd.int IntKind.i64)]) (tup:=false) (rs:=[(false,[RC.ro (Kd.sl KR)])]) (ar:=[]) (g:=P.i_after) (fun k=>valid (fx:=⟨⟨Go.Proofs.Tryz.prog,td,[(160,ct_i_stepped)],[],[]⟩,k,[(2,[(8,Sp.dat false (Kd.int IntKind.i64)),(7,Sp.dat false (Kd.int IntKind.i64)),(0,Sp.dat false (Kd.sl (Kd.sl KR))),(1,Sp.dat false (Kd.sl KR))])]⟩) (fn:=Go.Proofs.Tryz.f109) (c:=Go.Proofs.Tryz.f109.body.getD .skip) mixed tdOk (ctsCons v_i_stepped (ctsNil _ _ _ _ _)) Go.Proofs.Tryz.func109 (by kernel_rfl) (by kernel_rfl) (fun x=> ?_)) S.i_after_ok
 kernel_rfl
def ct_i_rat_cmp:Ct:=⟨[PK.bo KR,PK.bo KR],false,[(false,[RC.ro (Kd.int IntKind.i64)])],S.i_rat_cmp,[]⟩
theorem v_i_rat_cmp:Valid Go.Proofs.Tryz.prog gl 153 ct_i_rat_cmp:=by
 refine Valid.less (ps:=[PK.bo KR,PK.bo KR]) (tup:=false) (rs:=[(false,[RC.ro (Kd.int IntKind.i64)])]) (ar:=[]) (g:=P.i_rat_cmp) (fun k=>valid (fx:=⟨⟨Go.Proofs.Tryz.prog,td,[(171,ct_i_nat_cmp),(170,ct_i_nat_mul),(79,ct_i_rat_sign)],[],[]⟩,k,[]⟩) (fn:=Go.Proofs.Tryz.f153) (c:=Go.Proofs.Tryz.f153.body.getD .skip) mixed tdOk (ctsCons v_i_nat_cmp (ctsCons v_i_nat_mul (ctsCons v_i_rat_sign (ctsNil _ _ _ _ _)))) Go.Proofs.Tryz.func153 (by kernel_rfl) (by kernel_rfl) (fun x=> ?_)) S.i_rat_cmp_ok
 kernel_rfl
def ct_i_rat_isOne:Ct:=⟨[PK.bo KR],false,[(false,[RC.ro Kd.bool])],S.i_rat_isOne,[]⟩
theorem v_i_rat_isOne:Valid Go.Proofs.Tryz.prog gl 182 ct_i_rat_isOne:=by
 refine Valid.less (ps:=[PK.bo KR]) (tup:=false) (rs:=[(false,[RC.ro Kd.bool])]) (ar:=[]) (g:=P.i_rat_isOne) (fun k=>valid (fx:=⟨⟨Go.Proofs.Tryz.prog,td,[(120,ct_i_whole),(153,ct_i_rat_cmp)],[],[]⟩,k,[]⟩) (fn:=Go.Proofs.Tryz.f182) (c:=Go.Proofs.Tryz.f182.body.getD .skip) mixed tdOk (ctsCons v_i_whole (ctsCons v_i_rat_cmp (ctsNil _ _ _ _ _))) Go.Proofs.Tryz.func182 (by kernel_rfl) (by kernel_rfl) (fun x=> ?_)) S.i_rat_isOne_ok
 kernel_rfl
def ct_strings_Cut:Ct:=⟨[PK.ro Kd.str,PK.ro Kd.str],true,[(false,[RC.ro Kd.str]),(false,[RC.ro Kd.str]),(false,[RC.ro Kd.bool])],S.strings_Cut,[]⟩
theorem v_strings_Cut (hM:InM gl):Valid Go.Proofs.Tryz.prog gl 184 ct_strings_Cut:=by
 refine told_flat (enters_of Go.Proofs.Tryz.func184 (by kernel_rfl) (by kernel_rfl)) (fun _ _ _ _ _ _=>trivial) (fun w M0 W0 us x γ hl hW ha r hr=> ?_)
 obtain⟨s,b,q⟩:=x
 obtain⟨u1,_,rfl,⟨c1,h1,h1'⟩,u2,_,rfl,⟨c2,h2,h2'⟩,rfl⟩:=ha
 cases h1';cases h2';subst h1;subst h2
 unfold S.strings_Cut at hr
 split at hr
 case isFalse=>cases hr
 rename_i hc
 cases hr
 obtain⟨m,hm⟩:=hM
 refine(Go.Proofs.Tryz.strings_Cut s b m w hc (laid_cell hl hm)).mono ?_
 rintro e w' ⟨rfl,n,rfl⟩
 exact⟨[_,_,_],rfl,⟨rfl,rfl,rfl,Nat.le_refl _,fun _ _=>rfl⟩,fun M'=>⟨[_],[_,_],rfl,fun _=>rfl,rfl,[_],[_],rfl,fun _=>rfl,rfl,[_],rfl,fun _=>rfl,rfl⟩⟩
def ct_strings_CutPrefix:Ct:=⟨[PK.ro Kd.str,PK.ro Kd.str],true,[(false,[RC.ro Kd.str]),(false,[RC.ro Kd.bool])],S.strings_CutPrefix,[]⟩
theorem v_strings_CutPrefix:Valid Go.Proofs.Tryz.prog gl 185 ct_strings_CutPrefix:=by
 refine told_flat (enters_of Go.Proofs.Tryz.func185 (by kernel_rfl) (by kernel_rfl)) (fun _ _ _ _ _ _=>trivial) (fun w M0 W0 us x γ hl hW ha r hr=> ?_)
 obtain⟨s,b,q⟩:=x
 obtain⟨u1,_,rfl,⟨c1,h1,h1'⟩,u2,_,rfl,⟨c2,h2,h2'⟩,rfl⟩:=ha
 cases h1';cases h2';subst h1;subst h2
 cases hr
 refine(Go.Proofs.Tryz.strings_CutPrefix s b w).mono ?_
 rintro e w' ⟨rfl,rfl⟩
 exact⟨[_,_],rfl,Below.refl _ _,fun M'=>⟨[_],[_],rfl,fun _=>rfl,rfl,[_],rfl,fun _=>rfl,rfl⟩⟩
def ct_strconv_ParseUint:Ct:=⟨[PK.ro Kd.str,PK.ro (Kd.int IntKind.i64),PK.ro (Kd.int IntKind.i64)],true,[(false,[RC.ro (Kd.int IntKind.u64)]),(false,[RC.ro Kd.er])],S.strconv_ParseUint,[]⟩
theorem v_strconv_ParseUint (hR:InR gl) (hS:InS gl):Valid Go.Proofs.Tryz.prog gl 202 ct_strconv_ParseUint:=by
 refine told_flat (enters_of Go.Proofs.Tryz.func202 (by kernel_rfl) (by kernel_rfl)) (fun _ _ _ _ _ _=>trivial) (fun w M0 W0 us x γ hl hW ha r hr=> ?_)
 obtain⟨s,b,z,q⟩:=x
 obtain⟨u1,_,rfl,⟨c1,h1,h1'⟩,u2,_,rfl,⟨c2,h2,h2'⟩,u3,_,rfl,⟨c3,h3,h3'⟩,rfl⟩:=ha
 cases h1';cases h2';cases h3';subst h1;subst h2;subst h3
 unfold S.strconv_ParseUint at hr
 split at hr
 case isFalse=>cases hr
 rename_i hc
 obtain⟨hb,hz,hs⟩:=hc
 dsimp only at hb hz hs hr
 subst hb;subst hz
 obtain⟨t1,p1,hS⟩:=hS
 obtain⟨t2,p2,hR⟩:=hR
 have v1:w.var? Go.Proofs.Tryz.prog "strconv.ErrSyntax" =some #[.iface t1 p1]:=laid_var hl hS (by kernel_rfl)
 have v2:w.var? Go.Proofs.Tryz.prog "strconv.ErrRange" =some #[.iface t2 p2]:=laid_var hl hR (by kernel_rfl)
 split at hr
 ·rename_i v hv
  cases hr
  refine(Go.Proofs.Tryz.strconv_ParseUint_10_at64_ok s (by omega) v hv w).mono ?_
  rintro e w' ⟨rfl,hw⟩
  refine⟨[_,_],rfl,?_,fun M'=>⟨[_],[_],rfl,fun _=>rfl,rfl,[_],rfl,fun _=>rfl,_,rfl,rfl,rfl⟩⟩
  rcases hw with rfl|⟨t,rfl⟩
  ·exact Below.refl _ _
  ·exact⟨rfl,rfl,rfl,by rw[Lib.bytesWorld_size];omega,fun k hk=>Lib.bytesWorld_at_old _ _ _ k (by omega)⟩
 ·rename_i hv
  cases hr
  refine(Go.Proofs.Tryz.strconv_ParseUint_10_at64_syntax_var s hs hv t1 p1 w v1).mono ?_
  rintro e w' ⟨N,rfl,_,_,hbl⟩
  exact⟨[_,_],rfl,hbl,fun M'=>⟨[_],[_],rfl,fun _=>rfl,rfl,[_],rfl,fun _=>rfl,_,rfl,rfl,_,_,rfl⟩⟩
 ·rename_i hv
  cases hr
  refine(Go.Proofs.Tryz.strconv_ParseUint_10_at64_range_var s hs hv t2 p2 w v2).mono ?_
  rintro e w' ⟨N,rfl,_,_,hbl⟩
  exact⟨[_,_],rfl,hbl,fun M'=>⟨[_],[_],rfl,fun _=>rfl,rfl,[_],rfl,fun _=>rfl,_,rfl,rfl,_,_,rfl⟩⟩
def ct_i_readNat:Ct:=⟨[PK.ro Kd.str],true,[(false,[RC.ro (Kd.sl (Kd.int IntKind.u32))]),(false,[RC.ro Kd.bool])],S.i_readNat,[]⟩
theorem v_i_readNat (hR:InR gl) (hS:InS gl):Valid Go.Proofs.Tryz.prog gl 186 ct_i_readNat:=by
 refine Valid.less (ps:=[PK.ro Kd.str]) (tup:=true) (rs:=[(false,[RC.ro (Kd.sl (Kd.int IntKind.u32))]),(false,[RC.ro Kd.bool])]) (ar:=[]) (g:=P.i_readNat) (fun k=>valid (fx:=⟨⟨Go.Proofs.Tryz.prog,td,[(202,ct_strconv_ParseUint),(174,ct_i_natOf),(172,ct_i_nat_add),(170,ct_i_nat_mul)],[],[]⟩,k,[(17,[(59,Sp.dat false (Kd.int IntKind.i64)),(58,Sp.dat false (Kd.int IntKind.i64)),(9,Sp.dat false (Kd.int IntKind.u64)),(4,Sp.dat false (Kd.sl (Kd.int IntKind.u32))),(7,Sp.dat false (Kd.int IntKind.u64)),(0,Sp.dat false Kd.str),(6,Sp.dat false (Kd.int IntKind.i64))]),(10,[(0,Sp.dat false Kd.str),(4,Sp.dat false (Kd.sl (Kd.int IntKind.u32)))]),(5,[(30,Sp.dat false (Kd.int IntKind.i64)),(29,Sp.dat false (Kd.int IntKind.i64)),(0,Sp.dat false Kd.str),(4,Sp.dat false (Kd.sl (Kd.int IntKind.u32)))])]⟩) (fn:=Go.Proofs.Tryz.f186) (c:=Go.Proofs.Tryz.f186.body.getD .skip) mixed tdOk (ctsCons (v_strconv_ParseUint hR hS) (ctsCons v_i_natOf (ctsCons v_i_nat_add (ctsCons v_i_nat_mul (ctsNil _ _ _ _ _))))) Go.Proofs.Tryz.func186 (by kernel_rfl) (by kernel_rfl) (fun x=> ?_)) S.i_readNat_ok
 kernel_rfl
def ct_i_readRat:Ct:=⟨[PK.ro Kd.str],true,[(true,[RC.ro KR]),(false,[RC.ro Kd.bool])],S.i_readRat,[]⟩
theorem v_i_readRat (hM:InM gl) (hR:InR gl) (hS:InS gl):Valid Go.Proofs.Tryz.prog gl 138 ct_i_readRat:=by
 refine Valid.less (ps:=[PK.ro Kd.str]) (tup:=true) (rs:=[(true,[RC.ro KR]),(false,[RC.ro Kd.bool])]) (ar:=[]) (g:=P.i_readRat) (fun k=>valid (fx:=⟨⟨Go.Proofs.Tryz.prog,td,[(184,ct_strings_Cut),(185,ct_strings_CutPrefix),(174,ct_i_natOf),(171,ct_i_nat_cmp),(187,ct_i_nat_gcd),(186,ct_i_readNat)],[],[]⟩,k,[]⟩) (fn:=Go.Proofs.Tryz.f138) (c:=Go.Proofs.Tryz.f138.body.getD .skip) mixed tdOk (ctsCons (v_strings_Cut hM) (ctsCons v_strings_CutPrefix (ctsCons v_i_natOf (ctsCons v_i_nat_cmp (ctsCons v_i_nat_gcd (ctsCons (v_i_readNat hR hS) (ctsNil _ _ _ _ _))))))) Go.Proofs.Tryz.func138 (by kernel_rfl) (by kernel_rfl) (fun x=> ?_)) S.i_readRat_ok
 kernel_rfl
def ct_i_rats:Ct:=⟨[PK.bo (Kd.sl Kd.str)],true,[(false,[RC.ro (Kd.sl KR)]),(false,[RC.ro Kd.bool])],S.i_rats,[]⟩
theorem v_i_rats (hM:InM gl) (hR:InR gl) (hS:InS gl):Valid Go.Proofs.Tryz.prog gl 75 ct_i_rats:=by
 refine Valid.less (ps:=[PK.bo (Kd.sl Kd.str)]) (tup:=true) (rs:=[(false,[RC.ro (Kd.sl KR)]),(false,[RC.ro Kd.bool])]) (ar:=[]) (g:=P.i_rats) (fun k=>valid (fx:=⟨⟨Go.Proofs.Tryz.prog,td,[(138,ct_i_readRat)],[],[]⟩,k,[(5,[(15,Sp.dat false (Kd.int IntKind.i64)),(14,Sp.dat false (Kd.int IntKind.i64)),(13,Sp.dat true (Kd.sl Kd.str)),(4,Sp.own (96) true KR)])]⟩) (fn:=Go.Proofs.Tryz.f75) (c:=Go.Proofs.Tryz.f75.body.getD .skip) mixed tdOk (ctsCons (v_i_readRat hM hR hS) (ctsNil _ _ _ _ _)) Go.Proofs.Tryz.func75 (by kernel_rfl) (by kernel_rfl) (fun x=> ?_)) S.i_rats_ok
 kernel_rfl
def ct_i_sum:Ct:=⟨[PK.ro (Kd.sl KR)],false,[(true,[RC.ro KR])],S.i_sum,[]⟩
theorem v_i_sum:Valid Go.Proofs.Tryz.prog gl 78 ct_i_sum:=by
 refine Valid.less (ps:=[PK.ro (Kd.sl KR)]) (tup:=false) (rs:=[(true,[RC.ro KR])]) (ar:=[]) (g:=P.i_sum) (fun k=>valid (fx:=⟨⟨Go.Proofs.Tryz.prog,td,[(120,ct_i_whole),(119,ct_i_rat_add)],[],[]⟩,k,[(3,[(9,Sp.dat false (Kd.int IntKind.i64)),(8,Sp.dat false (Kd.int IntKind.i64)),(7,Sp.dat false (Kd.sl KR)),(3,Sp.var (24) KR),(2,Sp.var (16) KR)])]⟩) (fn:=Go.Proofs.Tryz.f78) (c:=Go.Proofs.Tryz.f78.body.getD .skip) mixed tdOk (ctsCons v_i_whole (ctsCons v_i_rat_add (ctsNil _ _ _ _ _))) Go.Proofs.Tryz.func78 (by kernel_rfl) (by kernel_rfl) (fun x=> ?_)) S.i_sum_ok
 kernel_rfl
def ct_i_isMinus:Ct:=⟨[PK.bo KR],false,[(false,[RC.ro Kd.bool])],S.i_isMinus,[]⟩
theorem v_i_isMinus:Valid Go.Proofs.Tryz.prog gl 77 ct_i_isMinus:=by
 refine Valid.less (ps:=[PK.bo KR]) (tup:=false) (rs:=[(false,[RC.ro Kd.bool])]) (ar:=[]) (g:=P.i_isMinus) (fun k=>valid (fx:=⟨⟨Go.Proofs.Tryz.prog,td,[(79,ct_i_rat_sign)],[],[]⟩,k,[]⟩) (fn:=Go.Proofs.Tryz.f77) (c:=Go.Proofs.Tryz.f77.body.getD .skip) mixed tdOk (ctsCons v_i_rat_sign (ctsNil _ _ _ _ _)) Go.Proofs.Tryz.func77 (by kernel_rfl) (by kernel_rfl) (fun x=> ?_)) S.i_isMinus_ok
 kernel_rfl
def ct_slices_IndexFunc__i_rat_i_rat:Ct:=⟨[PK.bo (Kd.sl KR),PK.fn (77)],false,[(false,[RC.ro (Kd.int IntKind.i64)])],S.slices_IndexFunc__i_rat_i_rat,[]⟩
theorem v_slices_IndexFunc__i_rat_i_rat:Valid Go.Proofs.Tryz.prog gl 139 ct_slices_IndexFunc__i_rat_i_rat:=by
 refine Valid.less (ps:=[PK.bo (Kd.sl KR),PK.fn (77)]) (tup:=false) (rs:=[(false,[RC.ro (Kd.int IntKind.i64)])]) (ar:=[]) (g:=P.slices_IndexFunc__i_rat_i_rat) (fun k=>valid (fx:=⟨⟨Go.Proofs.Tryz.prog,td,[(77,ct_i_isMinus)],[],[]⟩,k,[(2,[(8,Sp.dat false (Kd.int IntKind.i64)),(7,Sp.dat false (Kd.int IntKind.i64)),(1,Sp.fn (77)),(0,Sp.dat true (Kd.sl KR))])]⟩) (fn:=Go.Proofs.Tryz.f139) (c:=Go.Proofs.Tryz.f139.body.getD .skip) mixed tdOk (ctsCons v_i_isMinus (ctsNil _ _ _ _ _)) Go.Proofs.Tryz.func139 (by kernel_rfl) (by kernel_rfl) (fun x=> ?_)) S.slices_IndexFunc__i_rat_i_rat_ok
 kernel_rfl
def ct_slices_ContainsFunc__i_rat_i_rat:Ct:=⟨[PK.bo (Kd.sl KR),PK.fn (77)],false,[(false,[RC.ro Kd.bool])],S.slices_ContainsFunc__i_rat_i_rat,[]⟩
theorem v_slices_ContainsFunc__i_rat_i_rat:Valid Go.Proofs.Tryz.prog gl 76 ct_slices_ContainsFunc__i_rat_i_rat:=by
 refine Valid.less (ps:=[PK.bo (Kd.sl KR),PK.fn (77)]) (tup:=false) (rs:=[(false,[RC.ro Kd.bool])]) (ar:=[]) (g:=P.slices_ContainsFunc__i_rat_i_rat) (fun k=>valid (fx:=⟨⟨Go.Proofs.Tryz.prog,td,[(77,ct_i_isMinus),(139,ct_slices_IndexFunc__i_rat_i_rat)],[],[]⟩,k,[]⟩) (fn:=Go.Proofs.Tryz.f76) (c:=Go.Proofs.Tryz.f76.body.getD .skip) mixed tdOk (ctsCons v_i_isMinus (ctsCons v_slices_IndexFunc__i_rat_i_rat (ctsNil _ _ _ _ _))) Go.Proofs.Tryz.func76 (by kernel_rfl) (by kernel_rfl) (fun x=> ?_)) S.slices_ContainsFunc__i_rat_i_rat_ok
 kernel_rfl
def ct_i_notPlus:Ct:=⟨[PK.bo KR],false,[(false,[RC.ro Kd.bool])],S.i_notPlus,[]⟩
theorem v_i_notPlus:Valid Go.Proofs.Tryz.prog gl 158 ct_i_notPlus:=by
 refine Valid.less (ps:=[PK.bo KR]) (tup:=false) (rs:=[(false,[RC.ro Kd.bool])]) (ar:=[]) (g:=P.i_notPlus) (fun k=>valid (fx:=⟨⟨Go.Proofs.Tryz.prog,td,[(79,ct_i_rat_sign)],[],[]⟩,k,[]⟩) (fn:=Go.Proofs.Tryz.f158) (c:=Go.Proofs.Tryz.f158.body.getD .skip) mixed tdOk (ctsCons v_i_rat_sign (ctsNil _ _ _ _ _)) Go.Proofs.Tryz.func158 (by kernel_rfl) (by kernel_rfl) (fun x=> ?_)) S.i_notPlus_ok
 kernel_rfl
def ct_slices_IndexFunc__i_rat_i_ratP:Ct:=⟨[PK.bo (Kd.sl KR),PK.fn (158)],false,[(false,[RC.ro (Kd.int IntKind.i64)])],S.slices_IndexFunc__i_rat_i_ratP,[]⟩
theorem v_slices_IndexFunc__i_rat_i_ratP:Valid Go.Proofs.Tryz.prog gl 139 ct_slices_IndexFunc__i_rat_i_ratP:=by
 refine Valid.less (ps:=[PK.bo (Kd.sl KR),PK.fn (158)]) (tup:=false) (rs:=[(false,[RC.ro (Kd.int IntKind.i64)])]) (ar:=[]) (g:=P.slices_IndexFunc__i_rat_i_ratP) (fun k=>valid (fx:=⟨⟨Go.Proofs.Tryz.prog,td,[(158,ct_i_notPlus)],[],[]⟩,k,[(2,[(8,Sp.dat false (Kd.int IntKind.i64)),(7,Sp.dat false (Kd.int IntKind.i64)),(1,Sp.fn (158)),(0,Sp.dat true (Kd.sl KR))])]⟩) (fn:=Go.Proofs.Tryz.f139) (c:=Go.Proofs.Tryz.f139.body.getD .skip) mixed tdOk (ctsCons v_i_notPlus (ctsNil _ _ _ _ _)) Go.Proofs.Tryz.func139 (by kernel_rfl) (by kernel_rfl) (fun x=> ?_)) S.slices_IndexFunc__i_rat_i_ratP_ok
 kernel_rfl
def ct_slices_ContainsFunc__i_rat_i_ratP:Ct:=⟨[PK.bo (Kd.sl KR),PK.fn (158)],false,[(false,[RC.ro Kd.bool])],S.slices_ContainsFunc__i_rat_i_ratP,[]⟩
theorem v_slices_ContainsFunc__i_rat_i_ratP:Valid Go.Proofs.Tryz.prog gl 76 ct_slices_ContainsFunc__i_rat_i_ratP:=by
 refine Valid.less (ps:=[PK.bo (Kd.sl KR),PK.fn (158)]) (tup:=false) (rs:=[(false,[RC.ro Kd.bool])]) (ar:=[]) (g:=P.slices_ContainsFunc__i_rat_i_ratP) (fun k=>valid (fx:=⟨⟨Go.Proofs.Tryz.prog,td,[(158,ct_i_notPlus),(139,ct_slices_IndexFunc__i_rat_i_ratP)],[],[]⟩,k,[]⟩) (fn:=Go.Proofs.Tryz.f76) (c:=Go.Proofs.Tryz.f76.body.getD .skip) mixed tdOk (ctsCons v_i_notPlus (ctsCons v_slices_IndexFunc__i_rat_i_ratP (ctsNil _ _ _ _ _))) Go.Proofs.Tryz.func76 (by kernel_rfl) (by kernel_rfl) (fun x=> ?_)) S.slices_ContainsFunc__i_rat_i_ratP_ok
 kernel_rfl
def ct_i_weightsOf:Ct:=⟨[PK.bo (Kd.sl Kd.str)],true,[(false,[RC.ro (Kd.sl KR)]),(false,[RC.ro Kd.bool])],S.i_weightsOf,[]⟩
theorem v_i_weightsOf (hM:InM gl) (hR:InR gl) (hS:InS gl):Valid Go.Proofs.Tryz.prog gl 136 ct_i_weightsOf:=by
 refine Valid.less (ps:=[PK.bo (Kd.sl Kd.str)]) (tup:=true) (rs:=[(false,[RC.ro (Kd.sl KR)]),(false,[RC.ro Kd.bool])]) (ar:=[]) (g:=P.i_weightsOf) (fun k=>valid (fx:=⟨⟨Go.Proofs.Tryz.prog,td,[(182,ct_i_rat_isOne),(75,ct_i_rats),(78,ct_i_sum),(77,ct_i_isMinus),(76,ct_slices_ContainsFunc__i_rat_i_rat),(76,ct_slices_ContainsFunc__i_rat_i_ratP)],[],[]⟩,k,[]⟩) (fn:=Go.Proofs.Tryz.f136) (c:=Go.Proofs.Tryz.f136.body.getD .skip) mixed tdOk (ctsCons v_i_rat_isOne (ctsCons (v_i_rats hM hR hS) (ctsCons v_i_sum (ctsCons v_i_isMinus (ctsCons v_slices_ContainsFunc__i_rat_i_rat (ctsCons v_slices_ContainsFunc__i_rat_i_ratP (ctsNil _ _ _ _ _))))))) Go.Proofs.Tryz.func136 (by kernel_rfl) (by kernel_rfl) (fun x=> ?_)) S.i_weightsOf_ok
 kernel_rfl
def ct_i_chainOf:Ct:=⟨[PK.bo (Kd.st (Kd.sl (Kd.sl Kd.str)))],true,[(false,[RC.ro (Kd.sl (Kd.sl KR))]),(false,[RC.ro Kd.bool])],S.i_chainOf,[]⟩
theorem v_i_chainOf (hM:InM gl) (hR:InR gl) (hS:InS gl):Valid Go.Proofs.Tryz.prog gl 64 ct_i_chainOf:=by
 refine Valid.less (ps:=[PK.bo (Kd.st (Kd.sl (Kd.sl Kd.str)))]) (tup:=true) (rs:=[(false,[RC.ro (Kd.sl (Kd.sl KR))]),(false,[RC.ro Kd.bool])]) (ar:=[]) (g:=P.i_chainOf) (fun k=>valid (fx:=⟨⟨Go.Proofs.Tryz.prog,td,[(136,ct_i_weightsOf)],[],[]⟩,k,[(5,[(23,Sp.dat false (Kd.int IntKind.i64)),(22,Sp.dat false (Kd.int IntKind.i64)),(21,Sp.dat true (Kd.sl (Kd.sl Kd.str))),(1,Sp.varb (8) (Kd.sl (Kd.sl Kd.str))),(4,Sp.own (152) true (Kd.sl KR))])]⟩) (fn:=Go.Proofs.Tryz.f64) (c:=Go.Proofs.Tryz.f64.body.getD .skip) mixed tdOk (ctsCons (v_i_weightsOf hM hR hS) (ctsNil _ _ _ _ _)) Go.Proofs.Tryz.func64 (by kernel_rfl) (by kernel_rfl) (fun x=> ?_)) S.i_chainOf_ok
 kernel_rfl
def ct_i_chainAndWeights:Ct:=⟨[PK.bo (Kd.st (Kd.sl (Kd.sl Kd.str))),PK.bo (Kd.sl Kd.str)],true,[(false,[RC.ro (Kd.sl (Kd.sl KR))]),(false,[RC.ro (Kd.sl KR)]),(false,[RC.ro Kd.bool])],S.i_chainAndWeights,[]⟩
theorem v_i_chainAndWeights (hM:InM gl) (hR:InR gl) (hS:InS gl):Valid Go.Proofs.Tryz.prog gl 107 ct_i_chainAndWeights:=by
 refine Valid.less (ps:=[PK.bo (Kd.st (Kd.sl (Kd.sl Kd.str))),PK.bo (Kd.sl Kd.str)]) (tup:=true) (rs:=[(false,[RC.ro (Kd.sl (Kd.sl KR))]),(false,[RC.ro (Kd.sl KR)]),(false,[RC.ro Kd.bool])]) (ar:=[]) (g:=P.i_chainAndWeights) (fun k=>valid (fx:=⟨⟨Go.Proofs.Tryz.prog,td,[(136,ct_i_weightsOf),(64,ct_i_chainOf)],[],[]⟩,k,[]⟩) (fn:=Go.Proofs.Tryz.f107) (c:=Go.Proofs.Tryz.f107.body.getD .skip) mixed tdOk (ctsCons (v_i_weightsOf hM hR hS) (ctsCons (v_i_chainOf hM hR hS) (ctsNil _ _ _ _ _))) Go.Proofs.Tryz.func107 (by kernel_rfl) (by kernel_rfl) (fun x=> ?_)) S.i_chainAndWeights_ok
 kernel_rfl
def ct_i_AfterSteps:Ct:=⟨[PK.bo (Kd.st (Kd.sl (Kd.sl Kd.str))),PK.bo (Kd.sl Kd.str),PK.ro (Kd.int IntKind.i64)],true,[(false,[RC.own Kd.str]),(false,[RC.ro Kd.bool])],S.i_AfterSteps,[]⟩
theorem v_i_AfterSteps (hM:InM gl) (hP:InP gl) (hR:InR gl) (hS:InS gl):Valid Go.Proofs.Tryz.prog gl 47 ct_i_AfterSteps:=by
 refine Valid.less (ps:=[PK.bo (Kd.st (Kd.sl (Kd.sl Kd.str))),PK.bo (Kd.sl Kd.str),PK.ro (Kd.int IntKind.i64)]) (tup:=true) (rs:=[(false,[RC.own Kd.str]),(false,[RC.ro Kd.bool])]) (ar:=[]) (g:=P.i_AfterSteps) (fun k=>valid (fx:=⟨⟨Go.Proofs.Tryz.prog,td,[(108,ct_i_in),(80,ct_i_toldList),(109,ct_i_after),(107,ct_i_chainAndWeights)],[],[]⟩,k,[]⟩) (fn:=Go.Proofs.Tryz.f47) (c:=Go.Proofs.Tryz.f47.body.getD .skip) mixed tdOk (ctsCons v_i_in (ctsCons (v_i_toldList hP) (ctsCons v_i_after (ctsCons (v_i_chainAndWeights hM hR hS) (ctsNil _ _ _ _ _))))) Go.Proofs.Tryz.func47 (by kernel_rfl) (by kernel_rfl) (fun x=> ?_)) S.i_AfterSteps_ok
 kernel_rfl
def ct_l_FnExactAfterSteps:Ct:=⟨[PK.bo (Kd.st (Kd.sl (Kd.sl Kd.str))),PK.bo (Kd.sl Kd.str),PK.ro (Kd.int IntKind.i64)],false,[(false,[RC.ro Kd.bool])],S.l_FnExactAfterSteps,[]⟩
theorem v_l_FnExactAfterSteps (hM:InM gl) (hP:InP gl) (hR:InR gl) (hS:InS gl):Valid Go.Proofs.Tryz.prog gl 9 ct_l_FnExactAfterSteps:=by
 refine Valid.less (ps:=[PK.bo (Kd.st (Kd.sl (Kd.sl Kd.str))),PK.bo (Kd.sl Kd.str),PK.ro (Kd.int IntKind.i64)]) (tup:=false) (rs:=[(false,[RC.ro Kd.bool])]) (ar:=[]) (g:=P.l_FnExactAfterSteps) (fun k=>valid (fx:=⟨⟨Go.Proofs.Tryz.prog,td,[(24,ct_l_szStringS),(15,ct_l_szChain),(26,ct_l_toStringSo),(28,ct_l_eqStringS),(29,ct_l_intactStringS),(30,ct_l_markStringS),(31,ct_l_heldStringS),(20,ct_l_intactChain),(21,ct_l_markChain),(17,ct_l_toChaino),(46,ct_s_AfterSteps),(47,ct_i_AfterSteps)],[],[]⟩,k,[]⟩) (fn:=Go.Proofs.Tryz.f9) (c:=Go.Proofs.Tryz.f9.body.getD .skip) mixed tdOk (ctsCons v_l_szStringS (ctsCons v_l_szChain (ctsCons v_l_toStringSo (ctsCons v_l_eqStringS (ctsCons v_l_intactStringS (ctsCons v_l_markStringS (ctsCons v_l_heldStringS (ctsCons v_l_intactChain (ctsCons v_l_markChain (ctsCons v_l_toChaino (ctsCons v_s_AfterSteps (ctsCons (v_i_AfterSteps hM hP hR hS) (ctsNil _ _ _ _ _))))))))))))) Go.Proofs.Tryz.func9 (by kernel_rfl) (by kernel_rfl) (fun x=> ?_)) S.l_FnExactAfterSteps_ok
 kernel_rfl
end Go.Cm.LnAfterSteps
end
