import Derived.Test.YtdpljomfkoojnaaGreatDoorCmZH
import Derived.Laws.IdiomElems
set_option linter.unusedVariables false
namespace Go.Cm
theorem wr {x:Int} (h0: -9223372036854775808<=x) (h1:x<=9223372036854775807):Go.IntKind.wrap Go.IntKind.i64 x=x:=IntWalk.i64_in _ (by omega)
theorem loopP_succ {X R:Type} (b:X->(X->Option R)->Option R) (n:Nat) (x:X):loopP b (n+1) x=b x (loopP b n):=rfl
theorem getD_cast {α:Type} (xs:List α) (i:Nat) (d:α) (h:i<xs.length):xs.getD ((i:Int)).toNat d=xs[i]:=by simp [h]
theorem loop_up {X R:Type} {b:X->(X->Option R)->Option R} {n:Nat} {st:Nat->X} {F:Nat->Option R} (hstep:∀i g,i<n->g (st (i+1))=F (i+1)->b (st i) g=F i) (hend:∀g,b (st n) g=F n):
  ∀m i k,i+m=n->m<k->loopP b k (st i)=F i:=by
 intro m
 induction m with
 |zero=>
  intro i k hi hk;cases k with
  |zero=>omega
  |succ k=>
   have:i=n:=by omega
   subst this;exact hend _
 |succ m ih=>
  intro i k hi hk;cases k with
  |zero=>omega
  |succ k=>exact hstep i _ (by omega) (ih (i+1) k (by omega) (by omega))
theorem loop_up0 {X R:Type} {b:X->(X->Option R)->Option R} {n:Nat} {st:Nat->X} {F:Nat->Option R} (hstep:∀i g,i<n->g (st (i+1))=F (i+1)->b (st i) g=F i) (hend:∀g,b (st n) g=F n) {k:Nat} (hk:n<k):
  loopP b k (st 0)=F 0:=loop_up hstep hend n 0 k (by omega) hk
def eqTexts (xs ys:List ByteArray):Bool:=xs.map ByteArray.toList==ys.map ByteArray.toList
theorem eqTexts_refl (xs:List ByteArray):eqTexts xs xs=true:=by simp [eqTexts]
theorem eqTexts_len {xs ys:List ByteArray} (h:xs.length≠ys.length):eqTexts xs ys=false:=by
 unfold eqTexts;rw[beq_eq_false_iff_ne];intro e;have:=congrArg List.length e;simp at this;exact h this
theorem eqTexts_drop {xs ys:List ByteArray} {i:Nat} (hx:i<xs.length) (hy:i<ys.length):eqTexts (xs.drop i) (ys.drop i)=((xs[i].toList==ys[i].toList)&&eqTexts (xs.drop (i+1)) (ys.drop (i+1))):=by
 rw[List.drop_eq_getElem_cons hx,List.drop_eq_getElem_cons hy];rfl
def rb (n:Int):Int:=if Int.tmod n 6=5 then 0 else if Int.tmod n 3=0 then 1 else n
theorem rb_le (n:Nat):0<=rb n/\rb n<=n+1:=by
 unfold rb;split
 ·omega
 ·split<;>omega
theorem set_fill {α:Type} (A:List α) (m:Nat) (d v:α):(A++List.replicate (m+1) d).set A.length v=(A++[v])++List.replicate m d:=by
 rw[List.set_append_right _ _ (Nat.le_refl _)];simp [List.replicate_succ]
def tos {α:Type} (fill:α) (bare:Bool) (xs:List α):List α×Nat:=if bare=true/\xs=[]then([],0)else(xs++List.replicate (rb xs.length).toNat fill,xs.length)
theorem tos_take {α:Type} (fill:α) (bare:Bool) (xs:List α):(tos fill bare xs).1.take (tos fill bare xs).2=xs:=by
 unfold tos;split
 ·rename_i h;rw[h.2];rfl
 ·simp
end Go.Cm
