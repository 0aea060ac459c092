import Derived.Test.YtdpljomfkoojnaaGreatDoorCmZE
import Derived.Test.YtdpljomfkoojnaaGreatDoorCmBs
import Derived.KernelRfl
namespace Go.Cm
theorem TdOk.of {P:Program} {t:Nat} {d:Td} (h1:(P.info? t).map (fun i=>(i.size,i.bytes))=some (d.k.sz,d.bytes))
  (h2:d.k.zero=none\/((P.info? t).bind (·.zero)).map (·.cells)=d.k.zero.map List.toArray) (h3:d.ag=isSt d.k)
  (h4:match d.k with
  | .int k=>P.underlying t=some (.int k)
  | .bool=>P.underlying t=some .bool
  | .str=>P.underlying t=some .string
  | .sl _=>P.underlying t=some (.slice d.el)
  | .pt _=>∃e,P.underlying t=some (.pointer e)
  | .st _=>∃fs,P.underlying t=some (.struct fs)/\fs.toList.map (fun f=>(f.offset,f.type))=d.fs/\(fs.toList.mapM (fun f=>(P.info? f.type).map fun i=>(f.offset,i.size))).isSome=true
  | .pair _ _=>False
  | .sv _=>False
  | .er=>∃ms,P.underlying t=some (.interface ms)):TdOk P t d:=by
 refine⟨?_,h3,?_⟩
 ·cases hi:P.info? t with
  |none=>rw[hi]at h1;cases h1
  |some i=>
   rw[hi]at h1 h2;simp only[Option.map_some,Option.some.injEq,Prod.mk.injEq,Option.bind_some]at h1 h2;refine⟨i,rfl,h1.1,h1.2,fun cs hcs=> ?_⟩;rcases h2 with h2|h2
   ·rw[hcs]at h2;cases h2
   ·rw[hcs,Option.map_some,Option.map_eq_some_iff]at h2;exact h2
 ·cases hk:d.k<;>rw[hk]at h4<;>first|exact h4|(obtain⟨fs,a,b,c⟩:=h4;exact⟨fs,a,b,Option.isSome_iff_exists.1 c⟩)
theorem tdsNil (P:Program) (Q:Program) (ct:List (Nat×Ct)) (r:List Nat):TdsOk ⟨Q,[],ct,r,[]⟩ P:=fun t d h=>by cases h
theorem tdsCons {P Q:Program} {ct:List (Nat×Ct)} {r:List Nat} {td:List (Nat×Td)} {t:Nat} {d:Td} (h:TdOk P t d) (hr:TdsOk ⟨Q,td,ct,r,[]⟩ P):TdsOk ⟨Q,(t,d)::td,ct,r,[]⟩ P:=by
 intro t' d' h';have h2:(bif Nat.beq t t' then some d else find t' td)=some d':=h';rw[beq_iff]at h2
 by_cases e:t=t'
 ·subst e;simp at h2;subst h2;exact h
 ·simp [e]at h2;exact hr t' d' h2
theorem ctsNil (P Q:Program) (gl:List (Nat×List Value)) (td:List (Nat×Td)) (r:List Nat):CtsOk ⟨Q,td,[],r,[]⟩ P gl:=⟨fun f c h=>(by cases h),fun f s h=>(by cases h)⟩
theorem cN {P Q:Program} {gl:List (Nat×List Value)} {td:List (Nat×Td)} {r:List Nat} :CtsOk ⟨Q,td,[],r,[]⟩ P gl:=ctsNil _ _ _ _ _
theorem ctsShr {P Q:Program} {gl:List (Nat×List Value)} {td:List (Nat×Td)} {r:List Nat} {f:Nat} {s:IntKind×(List Int->Nat)} (h:ShrOk P f s.1 s.2):CtsOk ⟨Q,td,[],r,[(f,s)]⟩ P gl:=by
 refine⟨fun f c h=>(by cases h),fun f' s' hf=> ?_⟩;simp only[find]at hf;cases hq:Nat.beq f f' with
 |true=>
  rw[hq]at hf;cases hf;rw[<-Nat.eq_of_beq_eq_true hq];exact h
 |false=>
  rw[hq]at hf;cases hf
theorem ctsCons {P Q:Program} {gl:List (Nat×List Value)} {td:List (Nat×Td)} {r:List Nat} {sh:List (Nat×IntKind×(List Int->Nat))} {cts:List (Nat×Ct)} {f:Nat} {c:Ct} (h:Valid P gl f c) (hr:CtsOk ⟨Q,td,cts,r,sh⟩ P gl) (ht:c.tup= !(c.rs.length==1):=by rfl):CtsOk ⟨Q,td,(f,c)::cts,r,sh⟩ P gl:=by
 refine⟨?_,hr.2⟩;intro f' c' h';rcases List.mem_cons.1 h' with h'|h'
 ·cases h';exact⟨h,ht⟩
 ·exact hr.1 f' c' h'
theorem VV {P:Program} {gl:List (Nat×List Value)} {td:List (Nat×Td)} (hm:P.follows .mixedOrders=true) (ht:TdsOk ⟨P,td,[],[],[]⟩ P) {f:Nat} {ct:Ct} {cts:List (Nat×Ct)} {sh:List (Nat×IntKind×(List Int->Nat))} {fn:Func} (r:List Nat) (ann:List (Nat×List (Nat×Sp))) (g:Nat->PTy ct.ps->Option (RkTy ct.rs×MTy ct.ps))
  (hct:CtsOk ⟨P,td,cts,r,sh⟩ P gl) (hf:P.funcs[f]? =some fn) (hg:∀x r,ct.fn x=some r->∃k,g k x=some r) (hb:fn.body=some (fn.body.getD .skip):=by kernel_rfl) (hok:fnOk fn (fn.body.getD .skip) ct.ps ct.tup ct.rs ct.ar=true:=by kernel_rfl)
  (hx:∀k x,g k x=execF ⟨⟨P,td,cts,r,sh⟩,k,ann⟩ fn.results.toList (fn.body.getD .skip) ct.ps ct.rs ct.ar x:=by intro k x;kernel_rfl):Valid P gl f ct:=by
 obtain⟨ps,tup,rs,s,ar⟩:=ct;exact Valid.less (fun k=>valid (ct:=⟨ps,tup,rs,g k,ar⟩) (fx:=⟨⟨P,td,cts,r,sh⟩,k,ann⟩) hm ht hct hf hb hok (fun x=>hx k x)) hg
theorem tdN {P:Program} {t:Nat} {d:Td} (h4:match d.k with
  | .int k=>P.underlying t=some (.int k)
  | .bool=>P.underlying t=some .bool
  | .str=>P.underlying t=some .string
  | .sl _=>P.underlying t=some (.slice d.el)
  | .pt _=>∃e,P.underlying t=some (.pointer e)
  | .st _=>∃fs,P.underlying t=some (.struct fs)/\fs.toList.map (fun f=>(f.offset,f.type))=d.fs/\(fs.toList.mapM (fun f=>(P.info? f.type).map fun i=>(f.offset,i.size))).isSome=true
  | .pair _ _=>False
  | .sv _=>False
  | .er=>∃ms,P.underlying t=some (.interface ms)) (h1:(P.info? t).map (fun i=>(i.size,i.bytes))=some (d.k.sz,d.bytes):=by kernel_rfl) (h2:((P.info? t).bind (·.zero)).map (·.cells)=d.k.zero.map List.toArray:=by kernel_rfl) (h3:d.ag=isSt d.k:=by rfl):TdOk P t d:= .of h1 (.inr h2) h3 h4
end Go.Cm
