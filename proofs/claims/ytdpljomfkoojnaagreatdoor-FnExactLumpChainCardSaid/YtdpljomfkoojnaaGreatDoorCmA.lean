import Derived.Below
import Derived.Calls
import Derived.Deep.LoopGhost
import Derived.Deep.Quiet
import Derived.Laws.IdiomCopy
namespace Go.Cm
inductive Kd where
 |int (k:IntKind)
 |bool
 |str
 |sl (k:Kd)
 |pt (k:Kd)
 |st (f:Kd)
 |pair (a b:Kd)
 |sv (k:Kd)
 |er
 deriving DecidableEq
abbrev Kd.Ty:Kd->Type
 | .int _=>Int
 | .bool=>Bool
 | .str=>ByteArray
 | .sl k=>List k.Ty
 | .pt k=>k.Ty
 | .st f=>f.Ty
 | .pair a b=>a.Ty×b.Ty
 | .sv k=>List k.Ty×Nat
 | .er=>Bool
def Kd.sz:Kd->Nat
 | .st f=>f.sz
 | .pair a b=>a.sz+b.sz
 |_=>1
def Kd.dflt:(k:Kd)->k.Ty
 | .int _=>(0:Int)
 | .bool=>false
 | .str=>⟨#[]⟩
 | .sl _=>[]
 | .pt k=>k.dflt
 | .st f=>f.dflt
 | .pair a b=>(a.dflt,b.dflt)
 | .sv _=>([],0)
 | .er=>false
def Kd.flat:Kd->Bool
 | .sl _| .pt _| .sv _=>false
 | .st f=>f.flat
 | .pair a b=>a.flat&&b.flat
 |_=>true
def Kd.zero:Kd->Option (List Value)
 | .int k=>some [.int k 0]
 | .bool=>some [.bool false]
 | .str=>some [.string ⟨#[]⟩]
 | .sl _=>some [.slice none 0 0]
 | .pt _=>none
 | .st f=>f.zero
 | .pair a b=>(a.zero).bind fun x=>(b.zero).map fun y=>x++y
 | .sv _=>some [.slice none 0 0]
 | .er=>some [.nilIface]
def Cells0 (w:World) (b o:Nat) (es:List Value):Prop:=∀j v,es[j]? =some v->w.cell? ⟨b,o+j,none⟩=some v
def Cells (w:World) (M:Nat->Nat->Prop) (b o:Nat) (es:List Value):Prop:=∀j v,es[j]? =some v->w.cell? ⟨b,o+j,none⟩=some v/\¬M b (o+j)
def RdC (w:World) (M:Nat->Nat->Prop):(k:Kd)->List Value->k.Ty->Prop
 | .int ik,cs,n=>cs=[.int ik n]
 | .bool,cs,b=>cs=[.bool b]
 | .str,cs,s=>cs=[.string s]
 | .sl k,cs,xs=>∃A c,cs=[.slice A (List.length xs) c]/\List.length xs<=c/\(List.length xs≠0->∃b o,A=some ⟨b,o,none⟩/\
   ∀(i:Nat) (x:k.Ty),xs[i]? =some x->∃es,RdC w M k es x/\Cells w M b (o+i*k.sz) es)
 | .pt k,cs,x=>∃b o es,cs=[.pointer (some ⟨b,o,none⟩)]/\RdC w M k es x/\Cells w M b o es
 | .st f,cs,x=>RdC w M f cs x
 | .pair a b,cs,(x,y)=>∃c1 c2,cs=c1++c2/\RdC w M a c1 x/\RdC w M b c2 y
 | .sv k,cs,(xs,n)=>∃A c,cs=[.slice A n c]/\(n<=List.length xs/\List.length xs<=c)/\(List.length xs≠0->∃b o,A=some ⟨b,o,none⟩/\
   ∀(i:Nat) (x:k.Ty),xs[i]? =some x->∃es,RdC w M k es x/\Cells w M b (o+i*k.sz) es)
 | .er,cs,b=>∃v,cs=[v]/\v.oneCell'=true/\(if b=true then ∃t u,v= .iface t u else v= .nilIface)
def At (w:World) (M:Nat->Nat->Prop) (k:Kd) (b o:Nat) (x:k.Ty):Prop:=∃es,RdC w M k es x/\Cells w M b o es
theorem RdC.len {w:World} {M:Nat->Nat->Prop} :∀ {k:Kd} {cs:List Value} {x:k.Ty},RdC w M k cs x->cs.length=k.sz
 | .int _,_,_,h=>by cases h;rfl
 | .bool,_,_,h=>by cases h;rfl
 | .str,_,_,h=>by cases h;rfl
 | .sl _,_,_,h=>by obtain⟨A,c,rfl,_⟩:=h;rfl
 | .pt _,_,_,h=>by obtain⟨b,o,es,rfl,_⟩:=h;rfl
 | .st f,_,_,h=>RdC.len (k:=f) h
 | .pair a b,_,(x,y),h=>by
  obtain⟨c1,c2,rfl,h1,h2⟩:=h;simp [Kd.sz,RdC.len h1,RdC.len h2]
 | .sv _,_,(_,_),h=>by obtain⟨A,c,rfl,_⟩:=h;rfl
 | .er,_,_,h=>by obtain⟨v,rfl,_⟩:=h;rfl
def Keeps (w:World) (M:Nat->Nat->Prop) (w':World) (M':Nat->Nat->Prop):Prop:=
 ∀b o v,w.cell? ⟨b,o,none⟩=some v->¬M b o->w'.cell? ⟨b,o,none⟩=some v/\¬M' b o
theorem Keeps.refl (w:World) (M:Nat->Nat->Prop):Keeps w M w M:=fun _ _ _ h k=>⟨h,k⟩
theorem Keeps.trans {w w1 w2:World} {M M1 M2:Nat->Nat->Prop} (h:Keeps w M w1 M1) (k:Keeps w1 M1 w2 M2):Keeps w M w2 M2:=
 fun b o v h1 h2=>let ⟨x,y⟩:=h b o v h1 h2;k b o v x y
theorem Keeps.less {w:World} {M M':Nat->Nat->Prop} (h:∀b o,M' b o->M b o):Keeps w M w M':=fun b o _ h1 h2=>⟨h1,fun h3=>h2 (h b o h3)⟩
theorem Cells.mono {w w':World} {M M':Nat->Nat->Prop} (hk:Keeps w M w' M') {b o:Nat} {es:List Value} (h:Cells w M b o es):Cells w' M' b o es:=
 fun j v hj=>let ⟨x,y⟩:=h j v hj;hk _ _ _ x y
theorem RdC.mono {w w':World} {M M':Nat->Nat->Prop} (hk:Keeps w M w' M'):∀ {k:Kd} {cs:List Value} {x:k.Ty},RdC w M k cs x->RdC w' M' k cs x
 | .int _,_,_,h=>h
 | .bool,_,_,h=>h
 | .str,_,_,h=>h
 | .sl k,_,_,h=>by
  obtain⟨A,c,h1,h2,h3⟩:=h;refine⟨A,c,h1,h2,fun hn=> ?_⟩;obtain⟨b,o,h4,h5⟩:=h3 hn;refine⟨b,o,h4,fun i x hi=> ?_⟩;obtain⟨es,h6,h7⟩:=h5 i x hi;exact⟨es,RdC.mono hk h6,h7.mono hk⟩
 | .pt k,_,_,h=>by
  obtain⟨b,o,es,h1,h2,h3⟩:=h;exact⟨b,o,es,h1,RdC.mono hk h2,h3.mono hk⟩
 | .st f,_,_,h=>RdC.mono (k:=f) hk h
 | .pair a b,_,(x,y),h=>by
  obtain⟨c1,c2,h1,h2,h3⟩:=h;exact⟨c1,c2,h1,RdC.mono hk h2,RdC.mono hk h3⟩
 | .sv k,_,(_,_),h=>by
  obtain⟨A,c,h1,h2,h3⟩:=h;refine⟨A,c,h1,h2,fun hn=> ?_⟩;obtain⟨b,o,h4,h5⟩:=h3 hn;refine⟨b,o,h4,fun i x hi=> ?_⟩;obtain⟨es,h6,h7⟩:=h5 i x hi;exact⟨es,RdC.mono hk h6,h7.mono hk⟩
 | .er,_,_,h=>h
theorem At.mono {w w':World} {M M':Nat->Nat->Prop} (hk:Keeps w M w' M') {k:Kd} {b o:Nat} {x:k.Ty} (h:At w M k b o x):At w' M' k b o x:=
 let ⟨es,h1,h2⟩:=h;⟨es,h1.mono hk,h2.mono hk⟩
theorem RdC.flat {w w':World} {M M':Nat->Nat->Prop} :∀ {k:Kd} {cs:List Value} {x:k.Ty},k.flat=true->RdC w M k cs x->RdC w' M' k cs x
 | .int _,_,_,_,h=>h
 | .bool,_,_,_,h=>h
 | .str,_,_,_,h=>h
 | .sl k,_,_,hf,_=>by simp [Kd.flat]at hf
 | .pt k,_,_,hf,_=>by simp [Kd.flat]at hf
 | .st f,_,_,hf,h=>RdC.flat (k:=f) hf h
 | .pair a b,_,(x,y),hf,h=>by
  obtain⟨c1,c2,h1,h2,h3⟩:=h;simp only[Kd.flat,Bool.and_eq_true]at hf;exact⟨c1,c2,h1,RdC.flat hf.1 h2,RdC.flat hf.2 h3⟩
 | .sv k,_,_,hf,_=>by simp [Kd.flat]at hf
 | .er,_,_,_,h=>h
theorem RdC.one {w:World} {M:Nat->Nat->Prop} :∀ {k:Kd} {cs:List Value} {x:k.Ty},RdC w M k cs x->∀v∈cs,v.oneCell'=true
 | .int _,_,_,h=>by cases h;simp [Value.oneCell']
 | .bool,_,_,h=>by cases h;simp [Value.oneCell']
 | .str,_,_,h=>by cases h;simp [Value.oneCell']
 | .sl _,_,_,h=>by obtain⟨A,c,rfl,_⟩:=h;simp [Value.oneCell']
 | .pt _,_,_,h=>by obtain⟨b,o,es,rfl,_⟩:=h;simp [Value.oneCell']
 | .st f,_,_,h=>RdC.one (k:=f) h
 | .pair a b,_,(x,y),h=>by
  obtain⟨c1,c2,rfl,h1,h2⟩:=h;intro v hv;rcases List.mem_append.1 hv with hv|hv
  ·exact RdC.one h1 v hv
  ·exact RdC.one h2 v hv
 | .sv _,_,(_,_),h=>by obtain⟨A,c,rfl,_⟩:=h;simp [Value.oneCell']
 | .er,_,_,h=>by obtain⟨v,rfl,h1,_⟩:=h;simpa using h1
theorem RdC.zero {w:World} {M:Nat->Nat->Prop} :∀ {k:Kd} {cs:List Value},k.zero=some cs->RdC w M k cs k.dflt
 | .int _,_,h=>by simp [Kd.zero]at h;exact h.symm
 | .bool,_,h=>by simp [Kd.zero]at h;exact h.symm
 | .str,_,h=>by simp [Kd.zero]at h;exact h.symm
 | .sl k,_,h=>by
  simp only[Kd.zero,Option.some.injEq]at h;exact⟨none,0,h.symm,by simp [Kd.dflt],fun h=>by simp [Kd.dflt]at h⟩
 | .pt _,_,h=>by simp [Kd.zero]at h
 | .st f,_,h=>RdC.zero (k:=f) h
 | .pair a b,_,h=>by
  simp only[Kd.zero,Option.bind_eq_some_iff,Option.map_eq_some_iff]at h;obtain⟨x,hx,y,hy,rfl⟩:=h;exact⟨x,y,rfl,RdC.zero hx,RdC.zero hy⟩
 | .sv k,_,h=>by
  simp only[Kd.zero,Option.some.injEq]at h;exact⟨none,0,h.symm,by simp,fun h=>by simp at h⟩
 | .er,_,h=>by
  simp only[Kd.zero,Option.some.injEq]at h;exact⟨_,h.symm,by simp [Value.oneCell'],by simp [Kd.dflt]⟩
theorem Cells0.mono {w w':World} {b o:Nat} {es:List Value} (h:Cells0 w b o es) (hk:∀j v,j<es.length->w.cell? ⟨b,o+j,none⟩=some v->w'.cell? ⟨b,o+j,none⟩=some v):Cells0 w' b o es:=
 fun j v hj=>hk j v (by obtain⟨h,_⟩:=List.getElem?_eq_some_iff.1 hj;exact h) (h j v hj)
def castL {k k':Kd} (h:k'=k) (x:k'.Ty):k.Ty:=h▸x
def fgt:(k' k:Kd)->Option (k'.Ty->k.Ty)
 | .sl a, .sl b=>(fgt a b).map fun f xs=>xs.map f
 | .sv a, .sl b=>(fgt a b).map fun f x=>(x.1.take x.2).map f
 | .st a, .st b=>fgt a b
 | .st (.pair a b), .pair c d=>if h:Kd.pair a b= .pair c d then some (castL (k':= .pair a b) h)else none
 | .pair a b, .pair c d=>(fgt a c).bind fun f=>(fgt b d).map fun g x=>(f x.1,g x.2)
 |k',k=>if h:k'=k then some (castL h)else none
def fgL (k' k:Kd):Option (List k'.Ty->List k.Ty):=if h:k'=k then some (castL (k':= .sl k') (k:= .sl k) (by rw[h]))else(fgt k' k).map fun f xs=>xs.map f
theorem cast_rd {w:World} {M:Nat->Nat->Prop} {k' k:Kd} {es:List Value} {x:k'.Ty} (h:RdC w M k' es x) (hk:k'=k):RdC w M k es (castL hk x):=by
 subst hk;exact h
theorem fgt_sl {w:World} {M:Nat->Nat->Prop} {a b:Kd} {f:a.Ty->b.Ty} (ih:∀ {es:List Value} {x:a.Ty},RdC w M a es x->RdC w M b es (f x)) {xs:List a.Ty} {bb oo:Nat}
  (h:∀(i:Nat) (x:a.Ty),xs[i]? =some x->∃es,RdC w M a es x/\Cells w M bb (oo+i*a.sz) es):
  ∀(i:Nat) (x:b.Ty),(xs.map f)[i]? =some x->∃es,RdC w M b es x/\Cells w M bb (oo+i*b.sz) es:=by
 intro i x hx;rw[List.getElem?_map,Option.map_eq_some_iff]at hx;obtain⟨y,hy,rfl⟩:=hx;obtain⟨es,h1,h2⟩:=h i y hy;have h3:=ih h1;refine⟨es,h3,?_⟩;rw[<-h3.len,h1.len];exact h2
theorem fgt_rd {w:World} {M:Nat->Nat->Prop} :∀(k' k:Kd) {f:k'.Ty->k.Ty} {es:List Value} {x:k'.Ty},fgt k' k=some f->RdC w M k' es x->RdC w M k es (f x):=by
 intro k'
 induction k' with
 |sl a ih=>
  intro k f es x hf h;cases k<;>simp only[fgt]at hf
  case sl b=>
   rw[Option.map_eq_some_iff]at hf;obtain⟨g,hg,rfl⟩:=hf;obtain⟨A,c,h1,h2,h3⟩:=h;refine⟨A,c,by rw[h1,List.length_map],by rw[List.length_map];exact h2,fun hn=> ?_⟩;rw[List.length_map]at hn;obtain⟨bb,oo,h4,h5⟩:=h3 hn;exact⟨bb,oo,h4,fgt_sl (fun hh=>ih b hg hh) h5⟩
  all_goals simp at hf
 |sv a ih=>
  intro k f es x hf h;cases k<;>simp only[fgt]at hf
  case sl b=>
   rw[Option.map_eq_some_iff]at hf;obtain⟨g,hg,rfl⟩:=hf;obtain⟨xs,n⟩:=x;obtain⟨A,c,h1,h2,h3⟩:=h;have hl:((xs.take n).map g).length=n:=by simp;omega
   refine⟨A,c,by rw[hl];exact h1,by rw[hl];omega,fun hn=> ?_⟩;have hn':((xs.take n).map g).length≠0:=hn;obtain⟨bb,oo,h4,h5⟩:=h3 (by omega);refine⟨bb,oo,h4,fgt_sl (fun hh=>ih b hg hh) (fun i y hy=>h5 i y ?_)⟩;rw[List.getElem?_take]at hy;split at hy
   ·exact hy
   ·cases hy
  case sv b=>
   split at hf
   ·simp only[Option.some.injEq]at hf;subst hf;exact cast_rd h _
   ·cases hf
  all_goals simp at hf
 |st a ih=>
  intro k f es x hf h;cases k
  case st b=>
   simp only[fgt]at hf;exact ih b hf h
  case pair c d=>
   cases a<;>simp only[fgt]at hf
   case pair a b=>
    split at hf
    ·rename_i hk;simp only[Option.some.injEq]at hf;subst hf;exact cast_rd (k':= .pair a b) h hk
    ·cases hf
   all_goals simp at hf
  all_goals (cases a<;>simp [fgt]at hf)
 |pair a b iha ihb=>
  intro k f es x hf h;cases k<;>simp only[fgt]at hf
  case pair c d=>
   simp only[Option.bind_eq_some_iff,Option.map_eq_some_iff]at hf;obtain⟨g,hg,g',hg',rfl⟩:=hf;obtain⟨x1,x2⟩:=x;obtain⟨c1,c2,h1,h2,h3⟩:=h;exact⟨c1,c2,h1,iha c hg h2,ihb d hg' h3⟩
  all_goals simp at hf
 |_=>
  intro k f es x hf h;cases k<;>simp only[fgt]at hf
  all_goals first|(simp at hf;done)|(split at hf<;>first|(cases hf;done)|(simp only[Option.some.injEq]at hf;subst hf;exact cast_rd h _))
theorem fgL_rd {w:World} {M:Nat->Nat->Prop} {k' k:Kd} {f:List k'.Ty->List k.Ty} {u:Value} {xs:List k'.Ty} (hf:fgL k' k=some f) (h:RdC w M (.sl k') [u] xs):RdC w M (.sl k) [u] (f xs):=by
 unfold fgL at hf;split at hf
 ·rename_i hk;simp only[Option.some.injEq]at hf;subst hf;exact cast_rd h _
 ·rw[Option.map_eq_some_iff]at hf;obtain⟨g,hg,rfl⟩:=hf;exact fgt_rd (.sl k') (.sl k) (f:=fun xs=>xs.map g) (by simp [fgt,hg]) h
theorem sv_sl {w:World} {M:Nat->Nat->Prop} {k:Kd} {u:Value} {xs:List k.Ty} {n:Nat} (h:RdC w M (.sv k) [u] (xs,n)):RdC w M (.sl k) [u] (xs.take n):=by
 obtain⟨A,c,h1,h2,h3⟩:=h;have hl:(xs.take n).length=n:=by simp;omega
 refine⟨A,c,by rw[hl];exact h1,by rw[hl];omega,fun hn=> ?_⟩;obtain⟨bb,oo,h4,h5⟩:=h3 (by omega);refine⟨bb,oo,h4,fun i y hy=>h5 i y ?_⟩;rw[List.getElem?_take]at hy;split at hy
 ·exact hy
 ·cases hy
end Go.Cm
