import Derived.Test.YtdpljomfkoojnaaGreatDoorCmZJ
import Derived.Handed
set_option linter.unusedVariables false
namespace Go.Cm
theorem int_cell {P:Program} {W:World} (h:W.ShapedOpen P) {g:Nat} {zero:Array Value} {t:TypeId} {m:Int} (hg:g<P.globals.size) (hz:(((begin P (fun _ _=>0) default).world.heap[g]?).bind Obj.row?)=some (zero,t)) (h1:zero.size=1)
  (hc:W.cell? ⟨g,0,none⟩=some (.int .i64 m)):∃e z,W.heap[g]? =some (.cells [Value.int .i64 m].toArray e z):=by
 obtain⟨cs,h2,h3,_⟩:=h.1 g zero t hg hz;refine⟨t,(0,0),?_⟩;rw[h2];congr 2;unfold World.cell? at hc;rw[h2]at hc;rw[h1]at h3;simp at hc;apply Array.ext
 ·simpa using h3
 ·intro i hi hi';have:i=0:=by simp at hi';omega
  subst this;simpa [Array.getElem?_eq_getElem hi]using hc
end Go.Cm
