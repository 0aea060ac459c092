import Derived.Test.YtdpljomfkoojnaaGreatDoorCmJn
import Derived.Test.YtdpljomfkoojnaaGreatDoorRows
import Derived.Test.YtdpljomfkoojnaaGreatDoorChecked
import Derived.WalkKit
import Derived.ProofKit
import Derived.LaidMore
import Derived.Stop.Joined
import Derived.SevenTiedAt
namespace Go.Proofs.YtdpljomfkoojnaaGreatDoor.fnExactLumpChain
theorem o1:Tryz.prog.funcNamed "loop.example/g01211/laws.FnExactLumpChain" =some 11:=by kernel_rfl
theorem q1:Go.Cm.j1 Tryz.prog 11 Tryz.f11 Rows.fnExactLumpChainSpec Rows.fnExactLumpChainRow=true:=by kernel_rfl
theorem q2:Go.Cm.j2 Tryz.prog 11 Tryz.f11 Rows.fnExactLumpChainSpec Rows.fnExactLumpChainRow=true:=by kernel_rfl
theorem q3:Go.Cm.j3 Tryz.prog 11 Tryz.f11 Rows.fnExactLumpChainSpec Rows.fnExactLumpChainRow=true:=by kernel_rfl
theorem q4:Go.Cm.j4 Tryz.prog 11 Tryz.f11 Rows.fnExactLumpChainSpec Rows.fnExactLumpChainRow=true:=by kernel_rfl
theorem q5:Go.Cm.j5 Tryz.prog 11 Tryz.f11 Rows.fnExactLumpChainSpec Rows.fnExactLumpChainRow=true:=by kernel_rfl
theorem q6:Go.Cm.j6 Tryz.prog 11 Tryz.f11 Rows.fnExactLumpChainSpec Rows.fnExactLumpChainRow=true:=by kernel_rfl
theorem q7:Go.Cm.j7 Tryz.prog 11 Tryz.f11 Rows.fnExactLumpChainSpec Rows.fnExactLumpChainRow=true:=by kernel_rfl
theorem q8:Go.Cm.j8 Tryz.prog 11 Tryz.f11 Rows.fnExactLumpChainSpec Rows.fnExactLumpChainRow=true:=by kernel_rfl
theorem q9:Go.Cm.j9 Tryz.prog 11 Tryz.f11 Rows.fnExactLumpChainSpec Rows.fnExactLumpChainRow=true:=by kernel_rfl
theorem q10:Go.Cm.j10 Tryz.prog 11 Tryz.f11 Rows.fnExactLumpChainSpec Rows.fnExactLumpChainRow=true:=by kernel_rfl
theorem q11:Go.Cm.j11 Tryz.prog 11 Tryz.f11 Rows.fnExactLumpChainSpec Rows.fnExactLumpChainRow=true:=by kernel_rfl
theorem q12:Go.Cm.j12 Tryz.prog 11 Tryz.f11 Rows.fnExactLumpChainSpec Rows.fnExactLumpChainRow=true:=by kernel_rfl
theorem q13:Go.Cm.j13 Tryz.prog 11 Tryz.f11 Rows.fnExactLumpChainSpec Rows.fnExactLumpChainRow=true:=by kernel_rfl
theorem o2:joinedFacts Tryz.prog 11 Tryz.f11 Rows.fnExactLumpChainSpec Rows.fnExactLumpChainRow=true:=Go.Cm.joined_of q1 q2 q3 q4 q5 q6 q7 q8 q9 q10 q11 q12 q13
theorem o3:Tryz.f11.isInstance Tryz.prog Rows.fnExactLumpChainRow.origin Rows.fnExactLumpChainRow.targs:=of_decide_eq_true (by kernel_rfl)
theorem o4:Tryz.f11.isWrapper Tryz.prog Rows.fnExactLumpChainRow.wrapper Rows.fnExactLumpChainRow.mainSum:=by unfold Func.isWrapper;first|(rw[if_pos (by decide+kernel)];kernel_rfl)|(rw[if_neg (by decide+kernel)];exact⟨rfl,rfl⟩)
theorem o5:Tryz.prog.mainIs=some (true, "4e76080c7fe53ee1b9a62e2368db6c540a83790eabf8fb8b42a737690d148f39".toList):=by kernel_rfl
theorem o6:true=Tryz.prog.looks []:=by kernel_rfl
theorem o7:([24,26].all fun u=> !Tryz.prog.wantsStandIn u)=true:=by kernel_rfl
theorem o8:false=Rows.fnExactLumpChainRow.goesBy Tryz.prog:=by kernel_rfl
theorem o9:Rows.fnExactLumpChainRow.wfByText (OpenSpec.ofChange Rows.fnExactLumpChainSpec)=true:=by kernel_rfl
end Go.Proofs.YtdpljomfkoojnaaGreatDoor.fnExactLumpChain
