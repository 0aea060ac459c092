import Derived.Test.YtdpljomfkoojnaaGreatDoorCmZI
import Derived.MakeChecks
import Derived.LaidMore
set_option linter.unusedVariables false
namespace Go.Cm
theorem laidVars_mem {P:Program} {w:World} {n:String} {d:DataW Unit} :∀ {l:List (String×DataW Unit)} {ps:List MemPlace},DataW.LaidVars P w l ps->(n,d)∈l->
  ∃g t cs fuel p,P.globalNamed n=some g/\(P.globals[g]?).map (·.type)=some t/\w.var? P n=some cs/\DataW.trod (fun _=>()) P w 0 (fun _=>true) false fuel t cs.toList=some (d,p)
 | [],_,_,h=>by simp at h
 |(n',d')::r,ps,h,hm=>by
  obtain⟨g,t,cs,fuel,p,q,h1,h2,h3,h4,h5,_⟩:=h;rcases List.mem_cons.1 hm with hm|hm
  ·cases hm;exact⟨g,t,cs,fuel,p,h1,h2,h3,h4⟩
  ·exact laidVars_mem h5 hm
theorem tab_laid {P:Program} {W:World} {l:List (String×DataW Unit)} (h:laidMet P l W) {name:String} {k:IntKind} {zs:List Int} (hm:(name,Go.Lib.tabData k zs)∈l) {g:Nat} {t e:TypeId} {n:Nat}
  (hg:P.globalNamed name=some g) (hty:(P.globals[g]?).map (·.type)=some t) (ht:P.underlying t=some (.array n e)) (he:P.underlying e=some (.int k)) (hce:P.cellsOf e=1) (hct:P.cellsOf t=n):
  ∃e z,W.heap[g]? =some (.cells (zs.map fun z=>Value.int k z).toArray e z):=by
 obtain⟨ps,hl,_⟩:=h;obtain⟨g',t',cs,fuel,p,h1,h2,h3,h4⟩:=laidVars_mem hl hm;obtain rfl:=Option.some.inj (hg.symm.trans h1);obtain rfl:=Option.some.inj (hty.symm.trans h2);have hcs:=Go.Lib.cells_of_tab ht he hce hct h4;unfold World.var? at h3;rw[hg]at h3;simp only[Option.bind_some]at h3;split at h3
 ·rename_i cs' t z hh;cases h3;exact⟨t,z,by rw[hh,<-hcs]⟩
 ·cases h3
end Go.Cm
