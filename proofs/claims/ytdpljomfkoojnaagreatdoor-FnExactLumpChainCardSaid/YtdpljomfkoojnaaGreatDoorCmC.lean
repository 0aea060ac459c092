import Derived.Test.YtdpljomfkoojnaaGreatDoorCmB
namespace Go.Cm
def ofV:Value->AV
 | .agg cs=> .one true (cs.toList.map .v)
 |v=> .one false [.v v]
def opnd:Operand->Cm AV
 | .tmp t=> .slot t .ret
 | .const v=> .ret (ofV v)
 | .func f=> .ret (.one false [.v (.func (.func f) #[] #[])])
 | .global g=> .ret (.one false [.v (.pointer (some ⟨g,0,none⟩))])
def opnds:List Operand->Cm (List AV)
 | []=> .ret []
 |x::xs=>(opnd x).bind fun v=>(opnds xs).bind fun vs=> .ret (v::vs)
def sg {α:Type} :AV->(A0->Cm α)->Cm α
 | .one false [a],k=>k a
 |_,_=> .fail
def sgv {α:Type} :AV->(Value->Cm α)->Cm α
 | .one false [.v x],k=>k x
 |_,_=> .fail
def sgi {α:Type} :AV->(Int->Cm α)->Cm α
 | .one false [.v (.int .i64 n)],k=>k n
 |_,_=> .fail
def vl (x:Value):AV:= .one false [.v x]
def bin (op:BinOp):Value->Value->Cm Value
 | .int k a, .int k' b=>match op with
  | .shl=> .test (decide (b<0)) .fail (.ret (.int k (k.wrap (a*2^(min b.toNat k.bits)))))
  | .shr=> .test (decide (b<0)) .fail (.ret (.int k (a.fdiv (2^(min b.toNat k.bits)))))
  |op=>if k=k' then(match op with
   | .add=> .ret (.int k (k.wrap (a+b)))
   | .sub=> .ret (.int k (k.wrap (a - b)))
   | .mul=> .ret (.int k (k.wrap (a*b)))
   | .quo=> .test (decide (b=0)) .fail (.ret (.int k (k.wrap (a.tdiv b))))
   | .rem=> .test (decide (b=0)) .fail (.ret (.int k (a.tmod b)))
   | .or=> .ret (.int k (k.wrap (BitVec.ofInt k.bits a|||BitVec.ofInt k.bits b).toNat))
   | .and=> .ret (.int k (k.wrap (BitVec.ofInt k.bits a&&& BitVec.ofInt k.bits b).toNat))
   | .eql=> .ret (.bool (a==b))
   | .neq=> .ret (.bool (a != b))
   | .lss=> .ret (.bool (decide (a<b)))
   | .leq=> .ret (.bool (decide (a<=b)))
   | .gtr=> .ret (.bool (decide (a>b)))
   | .geq=> .ret (.bool (decide (a>=b)))
   |_=> .fail)else .fail
 | .string a, .string b=>match op with
  | .add=> .test (decide (a.size+b.size<=9223372036854775807)) (.ret (.string (a++b))) .fail
  | .eql=> .ret (.bool (a.toList==b.toList))
  | .neq=> .ret (.bool !(a.toList==b.toList))
  |_=> .fail
 |_,_=> .fail
def un (op:UnOp):Value->Cm Value
 | .int k n=>match op with
  | .neg=> .ret (.int k (k.wrap (0 - n)))
  |_=> .fail
 | .bool b=>match op with
  | .not=> .ret (.bool !b)
  |_=> .fail
 |_=> .fail
def byteAt (s:ByteArray) (i:Int):Int:=((s.data.toList.getD i.toNat 0).toNat:Int)
def dput (o:Oper) (v:AV):List Up:=match o.dst with|some d=>[.put d v]|none=>[]
def nm (o:Oper) (j:Nat):Nat:=(o.dst.getD 0)*8+j
def splice {α:Type} (xs ys:List α) (j:Nat):List α:=xs.take j++ys++xs.drop (j+ys.length)
def sub:(k:Kd)->Nat->k.Ty->Option ((k':Kd)×k'.Ty)
 | .st f,d,x=>sub f d x
 | .pair a b,d,x=>if d<a.sz then sub a d x.1 else sub b (d - a.sz) x.2
 |k,0,x=>some ⟨k,x⟩
 |_,_+1,_=>none
def bound {α:Type} (x:Option AV) (dflt:Int) (k:Int->Cm α):Cm α:=match x with
 |none=>k dflt
 |some v=>sgi v k
def oopnd:Option Operand->Cm (Option AV)
 |none=> .ret none
 |some x=>(opnd x).bind fun v=> .ret (some v)
def new (o:Oper) (j:Nat) (a:AO) (k:Nat->Cm (List Up)):Cm (List Up):=
 .obj (nm o j) fun g=>(k (g.1+1)).bind fun us=> .ret (.set (nm o j) (g.1+1) a::us)
def sameOp:Operand->Operand->Bool
 | .tmp a, .tmp b=>Nat.beq a b
 |_,_=>false
def isNilS:Operand->Bool
 | .const (.slice none 0 0)=>true
 |_=>false
def nilCmp (o:Oper) (op:BinOp) (b:Bool):Cm (List Up):=match op with
 | .eql=> .ret (dput o (vl (.bool b)))
 | .neq=> .ret (dput o (vl (.bool !b)))
 |_=> .fail
def isNilC:Operand->Bool
 | .const .nilIface=>true
 |_=>false
section
variable (cx:Cx)
def tdOf {α:Type} (t:Nat) (k:Td->Cm α):Cm α:=match find t cx.td with
 |some d=>k d
 |none=> .fail
def elOf {α:Type} (t:Nat) (k:Td->Cm α):Cm α:=tdOf cx t fun d=>match d.k with
 | .sl _=>tdOf cx d.el k
 |_=> .fail
def cellsAt {α:Type} :A0->(List A0->Cm α)->Cm α
 | .pt fl k x,κ=>κ (unpack fl k x)
 | .pm k x,κ=>κ (unpack false k x)
 | .pv l g j,κ=> .obj l fun o=>if o.1=g then(match o.2 with| .vars cs=>κ (cs.drop j)|_=> .fail)else .fail
 | .pa l g i j,κ=> .obj l fun o=>if o.1=g then(match o.2 with
   | .arr _ _ k full=>κ ((unpack false k (full.getD i k.dflt)).drop j)
   | .rows _ k rg hdr inn=>if strict k=true then .test (decide ((inn.getD (hdr.getD i (0,0)).1 []).length=0)) (κ ([A0.v (.slice none 0 0)].drop j)) (κ ([A0.row l g rg (hdr.getD i (0,0)).1 (some (0,(hdr.getD i (0,0)).2))].drop j))else κ ([A0.row l g rg (hdr.getD i (0,0)).1 (some (0,(hdr.getD i (0,0)).2))].drop j)
   |_=> .fail)else .fail
 | .pr l g rg i e j,κ=> .obj l fun o=>if o.1=g then(match o.2 with
   | .rows _ k rg' _ inn=>if rg'=rg then κ ((unpack false k ((inn.getD i []).getD e k.dflt)).drop j)else .fail
   |_=> .fail)else .fail
 |_,_=> .fail
def cellsOf:AV->List A0
 | .one _ cs=>cs
 | .tup _=>[]
def okC:A0->Bool
 | .bot=>false
 | .v x=>x.oneCell'
 |_=>true
def okCells (cs:List A0):Bool:=cs.all okC
def sLoad (o:Oper) (t:Nat) (a:A0):Cm (List Up):=tdOf cx t fun d=>cellsAt a fun cs=>
 if(cs.take d.k.sz).length=d.k.sz then .ret (dput o (.one d.ag (cs.take d.k.sz)))else .fail
def freezes:List Nat->Cm (List Up)
 | []=> .ret []
 |l::ls=> .obj l fun o=>match o.2 with
  | .arr mine _ k full=>(freezes ls).bind fun us=> .ret (.set l o.1 (.arr mine true k full)::us)
  |_=> .fail
def sStore (t:Nat) (a:A0) (v:AV):Cm (List Up):=tdOf cx t fun d=>
 if(cellsOf v).length=d.k.sz then(match a with
  | .pv l g j=> .obj l fun o=>if o.1=g then(match o.2 with
    | .vars cs=>if j+d.k.sz<=cs.length/\okCells (cellsOf v)=true then .ret [.set l g (.vars (splice cs (cellsOf v) j))]else .fail
    |_=> .fail)else .fail
  | .pa l g i j=> .obj l fun o=>if o.1=g then(match o.2 with
    | .arr mine false k full=>if j+d.k.sz<=k.sz then
      (pack false k (splice (unpack false k (full.getD i k.dflt)) (cellsOf v) j)).bind fun p=>
       if(p.fr.any fun x=>Nat.beq x l)=true then .fail else(freezes p.fr).bind fun fs=> .ret (fs++[.set l g (.arr mine false k (full.set i p.x))])
      else .fail
    | .rows mine k rg hdr inn=>if j=0 then(match cellsOf v with
      | [.row l' g' rg' i' vw]=>if(l'=l/\g'=g)/\rg'=rg/\voff vw=0/\strict k=false then .ret [.set l g (.rows mine k rg (hdr.set i (i',vlen (inn.getD i' []) vw)) inn)]else .fail
      | [.ref l2 g2 vw]=>if mine=true/\voff vw=0 then .obj l2 fun o2=>if o2.1=g2 then(match o2.2 with
        | .arr true false k2 full=>if strict k=true then(if h:Kd.st k2=k then .test (decide (List.length (α:=k2.Ty) full=0)) .fail (.ret [.set l2 (g2+1) .no, .set l g (.rows mine k rg (hdr.set i (inn.length,vlen full vw)) (inn++[castL (k':= .sl (.st k2)) (k:= .sl k) (by rw[h]) full]))])else .fail)
          else if h:k2=k then .ret [.set l2 (g2+1) .no, .set l g (.rows mine k rg (hdr.set i (inn.length,vlen full vw)) (inn++[castL (k':= .sl k2) (k:= .sl k) (by rw[h]) full]))]else .fail
        |_=> .fail)else .fail else .fail
      |_=> .fail)else .fail
    |_=> .fail)else .fail
  | .pr l g rg i e j=> .obj l fun o=>if o.1=g then(match o.2 with
    | .rows mine k rg' hdr inn=>if rg'=rg/\j+d.k.sz<=k.sz then
      (pack false k (splice (unpack false k ((inn.getD i []).getD e k.dflt)) (cellsOf v) j)).bind fun p=>
       (freezes p.fr).bind fun fs=> .ret (fs++[.set l g (.rows mine k rg' hdr (inn.set i ((inn.getD i []).set e p.x)))])
      else .fail
    |_=> .fail)else .fail
  |_=> .fail)else .fail
def fillC (fs:List (Nat×Nat)):List A0->List (Nat×AV)->Cm (List A0)
 |cs,[]=> .ret cs
 |cs,(i,v)::r=>match fs[i]? with
  |some (off,ft)=>tdOf cx ft fun d=>if(cellsOf v).length=d.k.sz/\off+d.k.sz<=cs.length/\okCells (cellsOf v)=true then fillC fs (splice cs (cellsOf v) off) r else .fail
  |none=> .fail
def parts:List (Nat×Operand)->Cm (List (Nat×AV))
 | []=> .ret []
 |(i,x)::r=>(opnd x).bind fun v=>(parts r).bind fun vs=> .ret ((i,v)::vs)
def packs (k:Kd):List (Nat×AV)->Nat->Cm (Pk (List k.Ty))
 | [],_=> .ret ⟨[],[],[],[]⟩
 |(i,v)::r,n=>if i=n/\okCells (cellsOf v)=true/\(cellsOf v).length=k.sz then(pack false k (cellsOf v)).bind fun p=>(packs k r (n+1)).bind fun q=> .ret ⟨p.x::q.x,p.fr++q.fr,p.bo++q.bo,[]⟩else .fail
def sIndexAddr (o:Oper) (t:Nat) (x:A0) (i:Int):Cm (List Up):=elOf cx t fun e=>match x with
 | .sl fl k xs=>if e.k.sz=k.sz then .test (decide (0<=i)) (.test (decide (i<(xs.length:Int))) (.ret (dput o (.one false [.pt fl k (xs.getD i.toNat k.dflt)]))) .fail) .fail else .fail
 | .sv fl k xs n=>if e.k.sz=k.sz then .test (decide (0<=i)) (.test (decide (i<(n:Int))) (.ret (dput o (.one false [.pt fl k (xs.getD i.toNat k.dflt)]))) .fail) .fail else .fail
 | .ref l g vw=> .obj l fun ob=>if ob.1=g then(match ob.2 with
   | .arr _ _ k full=>if e.k.sz=k.sz then .test (decide (0<=i)) (.test (decide (i<(vlen full vw:Int))) (.ret (dput o (.one false [.pa l g (voff vw+i.toNat) 0]))) .fail) .fail else .fail
   | .rows _ _ _ hdr _=>if e.k.sz=1 then .test (decide (0<=i)) (.test (decide (i<(vlen hdr vw:Int))) (.ret (dput o (.one false [.pa l g (voff vw+i.toNat) 0]))) .fail) .fail else .fail
   |_=> .fail)else .fail
 | .row l g rg q vw=> .obj l fun ob=>if ob.1=g then(match ob.2 with
   | .rows _ k rg' _ inn=>if rg'=rg/\e.k.sz=k.sz then .test (decide (0<=i)) (.test (decide (i<(vlen (inn.getD q []) vw:Int))) (.ret (dput o (.one false [.pr l g rg q (voff vw+i.toNat) 0]))) .fail) .fail else .fail
   |_=> .fail)else .fail
 |_=> .fail
def sSlice (o:Oper) (t:Nat) (x:A0) (lo hi:Option AV):Cm (List Up):=match x with
 | .v (.string s)=>tdOf cx t fun d=>if d.k= .str then bound hi (s.size:Int) fun h=>bound lo 0 fun l=>
   .test (decide (0<=h)) (.test (decide (h<=(s.size:Int))) (.test (decide (0<=l)) (.test (decide (l<=h)) (.ret (dput o (vl (.string (s.extract l.toNat h.toNat))))) .fail) .fail) .fail) .fail else .fail
 | .sl fl k xs=>elOf cx t fun e=>if e.k.sz=k.sz then bound hi (xs.length:Int) fun h=>bound lo 0 fun l=>
   .test (decide (0<=h)) (.test (decide (h<=(xs.length:Int))) (.test (decide (0<=l)) (.test (decide (l<=h)) (.ret (dput o (.one false [.sl fl k (seen xs l.toNat (h.toNat - l.toNat))]))) .fail) .fail) .fail) .fail else .fail
 | .sv fl k xs n=>elOf cx t fun e=>if e.k.sz=k.sz then bound hi (n:Int) fun h=>bound lo 0 fun l=>
   .test (decide (0<=h)) (.test (decide (h<=(xs.length:Int))) (.test (decide (0<=l)) (.test (decide (l<=h)) (.ret (dput o (.one false [.sl fl k (seen xs l.toNat (h.toNat - l.toNat))]))) .fail) .fail) .fail) .fail else .fail
 | .ref l0 g vw=> .obj l0 fun ob=>if ob.1=g then(match ob.2 with
   | .arr _ _ k full=>elOf cx t fun e=>if e.k.sz=k.sz then bound hi (vlen full vw:Int) fun h=>bound lo 0 fun l=>
     .test (decide (0<=h)) (.test (decide (h+(voff vw:Int)<=(full.length:Int))) (.test (decide (0<=l)) (.test (decide (l<=h)) (.ret (dput o (.one false [.ref l0 g (some (voff vw+l.toNat,h.toNat - l.toNat))]))) .fail) .fail) .fail) .fail else .fail
   | .rows _ _ _ hdr _=>elOf cx t fun e=>if e.k.sz=1 then bound hi (vlen hdr vw:Int) fun h=>bound lo 0 fun l=>
     .test (decide (0<=h)) (.test (decide (h+(voff vw:Int)<=(hdr.length:Int))) (.test (decide (0<=l)) (.test (decide (l<=h)) (.ret (dput o (.one false [.ref l0 g (some (voff vw+l.toNat,h.toNat - l.toNat))]))) .fail) .fail) .fail) .fail else .fail
   |_=> .fail)else .fail
 | .row l0 g rg q vw=> .obj l0 fun ob=>if ob.1=g then(match ob.2 with
   | .rows _ k rg' _ inn=>elOf cx t fun e=>if rg'=rg/\e.k.sz=k.sz then bound hi (vlen (inn.getD q []) vw:Int) fun h=>bound lo 0 fun l=>
     .test (decide (0<=h)) (.test (decide (h+(voff vw:Int)<=((inn.getD q []).length:Int))) (.test (decide (0<=l)) (.test (decide (l<=h)) (.ret (dput o (.one false [.row l0 g rg q (some (voff vw+l.toNat,h.toNat - l.toNat))]))) .fail) .fail) .fail) .fail else .fail
   |_=> .fail)else .fail
 |_=> .fail
def sLen (o:Oper) (t:Nat) (x:A0):Cm (List Up):=tdOf cx t fun d=>match d.k,x with
 | .str, .v (.string s)=> .ret (dput o (vl (.int .i64 (s.size:Int))))
 | .sl _, .v (.slice none 0 0)=> .ret (dput o (vl (.int .i64 0)))
 | .sl _, .sl _ _ xs=> .ret (dput o (vl (.int .i64 (xs.length:Int))))
 | .sl _, .sv _ _ _ n=> .ret (dput o (vl (.int .i64 (n:Int))))
 | .sl _, .ref l g vw=> .obj l fun ob=>if ob.1=g then(match ob.2 with
   | .arr _ _ _ full=> .ret (dput o (vl (.int .i64 (vlen full vw:Int))))
   | .rows _ _ _ hdr _=> .ret (dput o (vl (.int .i64 (vlen hdr vw:Int))))
   |_=> .fail)else .fail
 | .sl _, .row l g rg q vw=> .obj l fun ob=>if ob.1=g then(match ob.2 with
   | .rows _ _ rg' _ inn=>if rg'=rg then .ret (dput o (vl (.int .i64 (vlen (inn.getD q []) vw:Int))))else .fail
   |_=> .fail)else .fail
 |_,_=> .fail
def tail (k:Kd) (x:A0) (κ:List k.Ty->Cm (List Up)):Cm (List Up):=match x with
 | .v (.slice none 0 0)=>κ []
 | .sl fl k' ys=>if h:k'=k then(if(!fl||k.flat)=true then κ (castL (k':= .sl k') (k:= .sl k) (by rw[h]) ys)else .fail)else .fail
 | .sv fl k' ys n=>if h:k'=k then(if(!fl||k.flat)=true then κ (castL (k':= .sl k') (k:= .sl k) (by rw[h]) (ys.take n))else .fail)else .fail
 | .ref l g vw=> .obj l fun o=>if o.1=g then(match o.2 with
   | .arr _ _ k' full=>if h:k'=k then κ (look (castL (k':= .sl k') (k:= .sl k) (by rw[h]) full) vw)else .fail
   |_=> .fail)else .fail
 |_=> .fail
def isRows (H:Nat×AO) (g:Nat):Option ((k:Kd)×(List (Nat×Nat)×List (List k.Ty))):=if H.1=g then(match H.2 with
 | .rows true k _ hdr inn=>some ⟨k,hdr,inn⟩
 |_=>none)else none
def joinH (n:Nat) (hdr hdr2:List (Nat×Nat)):List (Nat×Nat):=hdr++hdr2.map fun p=>(p.1+n,p.2)
def sAppRows (o:Oper) (e:Td) (s:A0) (l2 g2:Nat) (k2:Kd) (hdr2:List (Nat×Nat)) (inn2:List (List k2.Ty)):Cm (List Up):=match s with
 | .v (.slice none 0 0)=> .test (decide (hdr2.length*e.bytes<=140737488355328))
   (if nm o 0=l2 then .fail else new o 0 (.rows true k2 0 hdr2 inn2) fun g=> .ret (.set l2 (g2+1) .no::dput o (.one false [.ref (nm o 0) g none]))) .fail
 | .ref l g none=>if l=l2 then .fail else .obj l fun ob=>if ob.1=g then(match ob.2 with
   | .rows true k _ hdr inn=>if h:k2=k then .test (decide ((hdr.length+hdr2.length)*e.bytes<=140737488355328))
     (.ret (.set l2 (g2+1) .no:: .set l (g+1) (.rows true k 0 (joinH inn.length hdr hdr2) (inn++inn2.map (castL (k':= .sl k2) (k:= .sl k) (by rw[h]))))::dput o (.one false [.ref l (g+1) none]))) .fail
     else .fail
   |_=> .fail)else .fail
 |_=> .fail
def sAppArr (o:Oper) (e:Td) (s x:A0):Cm (List Up):=match s with
 | .v (.slice none 0 0)=>tail e.k x fun ys=> .test (decide (ys.length*e.bytes<=140737488355328))
   (new o 0 (.arr true false e.k ys) fun g=> .ret (dput o (.one false [.ref (nm o 0) g none]))) .fail
 | .ref l g vw=> .obj l fun ob=>if ob.1=g then(match ob.2 with
   | .arr true false k full=>if h:k=e.k then tail e.k x fun ys=> .test (decide ((vlen full vw+ys.length)*e.bytes<=140737488355328))
     (.ret (.set l (g+1) (.arr true false e.k (look (castL (k':= .sl k) (k:= .sl e.k) (by rw[h]) full) vw++ys))::dput o (.one false [.ref l (g+1) none]))) .fail
     else .fail
   |_=> .fail)else .fail
 |_=> .fail
def sAppend (o:Oper) (t:Nat) (s x:A0):Cm (List Up):=elOf cx t fun e=>if e.bytes=0\/e.k.zero.isNone=true then .fail else match x with
 | .ref l2 g2 none=> .obj l2 fun o2=>match isRows o2 g2 with
   |some ⟨k2,hdr2,inn2⟩=>if e.k.sz=1 then sAppRows o e s l2 g2 k2 hdr2 inn2 else .fail
   |none=>sAppArr o e s x
 |x=>sAppArr o e s x
def sCopy (o:Oper) (t:Nat) (s x:A0):Cm (List Up):=elOf cx t fun e=>match s with
 | .ref l g vw=> .obj l fun ob=>if ob.1=g then(match ob.2 with
   | .arr mine false k full=>if e.k.sz=k.sz then tail k x fun ys=>
     .ret (.set l g (.arr mine false k (splice full (ys.take (vlen full vw)) (voff vw)))::dput o (vl (.int .i64 ((min ys.length (vlen full vw):Nat):Int))))
     else .fail
   |_=> .fail)else .fail
 |_=> .fail
def fnOf:AV->Option Nat
 | .one false [.v (.func (.func f) a b)]=>if a.size=0/\b.size=0 then some f else none
 |_=>none
def fits:List PK->List AV->Bool
 | [],[]=>true
 | .fn f::ps,v::vs=>(match fnOf v with|some g=>Nat.beq f g|none=>false)&&fits ps vs
 | .ro _::ps,_::vs=>fits ps vs
 | .bo _::ps,_::vs=>fits ps vs
 | .pm _::ps,_::vs=>fits ps vs
 | .mu _::ps,_::vs=>fits ps vs
 | .mr _::ps,_::vs=>fits ps vs
 | [],_::_=>false
 |_::_,[]=>false
def spl:List Nat->List AV->Option (List AV)
 | [],vs=>some vs
 |0::r,v::vs=>(spl r vs).map fun q=>v::q
 |(n+1)::r, .one true cs::vs=>if cs.length=n+1 then(spl r vs).map fun q=>(cs.map fun c=>AV.one false [c])++q else none
 |_::_,_=>none
def fitsG (c:Ct) (vs:List AV):Bool:=match spl c.ar vs with
 |some vs'=>fits c.ps vs'
 |none=>false
def pick (f:Nat) (vs:List AV):List (Nat×Ct)->Option Ct
 | []=>none
 |(g,c)::r=>bif Nat.beq g f&&fitsG c vs then some c else pick f vs r
def dup:List Nat->Bool
 | []=>false
 |x::xs=>xs.any (fun y=>Nat.beq x y)||dup xs
inductive Mu where
 |arr (l off len:Nat)
 |row (l i off len:Nat)
 |rows (l len:Nat) (all:Bool)
def Mu.ob:Mu->Nat
 | .arr l _ _=>l
 | .row l _ _ _=>l
 | .rows l _ _=>l
structure Pa (α:Type) where
 x:α
 fr:List Nat
 bo:List Nat
 mu:List Mu
def isSt:Kd->Bool
 | .st _=>true
 |_=>false
def both {α:Type} (f:Option (Nat×Nat)->Nat) (n:Nat):Option (Nat×Nat)->(Bool->Cm α)->Cm α
 |none,m=>m true
 |some p,m=> .test (decide (f (some p)=n)) (m true) (m false)
def passM {β:Type} (k:Kd):AV->(k.Ty->List Nat->Cm β)->Cm β
 | .one false [.pm k' x],κ=>if h:k'=k then κ (castL h x) []else .fail
 | .one false [.pt false k' x],κ=>if h:k'=k then κ (castL h x) []else .fail
 | .one false [.pv l g j],κ=> .obj l fun o=>if o.1=g then(match o.2 with
   | .vars cs=>(pack false k (cs.drop j)).bind fun p=>if p.fr.isEmpty=true then κ p.x [l]else .fail
   |_=> .fail)else .fail
 |_,_=> .fail
def pass:(ps:List PK)->List AV->Cm (Pa (PTy ps))
 | [],[]=> .ret ⟨(),[],[],[]⟩
 | .ro k::ps, .one ag cs::vs=>if ag=isSt k then(pack false k cs).bind fun p=>match p.rest with
   | []=>(pass ps vs).bind fun q=> .ret ⟨(p.x,q.x),p.fr++q.fr,p.bo++q.bo,q.mu⟩
   |_=> .fail
   else .fail
 | .bo k::ps, .one ag cs::vs=>if ag=isSt k then(pack true k cs).bind fun p=>match p.rest with
   | []=>(pass ps vs).bind fun q=> .ret ⟨(p.x,q.x),p.fr++q.fr,p.bo++q.bo,q.mu⟩
   |_=> .fail
   else .fail
 | .fn _::ps,_::vs=>(pass ps vs).bind fun q=> .ret ⟨((),q.x),q.fr,q.bo,q.mu⟩
 | .pm k::ps,v::vs=>passM k v fun x bl=>(pass ps vs).bind fun q=> .ret ⟨(x,q.x),q.fr,bl++q.bo,q.mu⟩
 | .mu k::ps, .one false [.ref l g vw]::vs=> .obj l fun o=>if o.1=g then(match o.2 with
   | .arr _ false k' full=>if h:k'=k then(pass ps vs).bind fun q=> .ret ⟨(look (castL (k':= .sl k') (k:= .sl k) (by rw[h]) full) vw,q.x),q.fr,q.bo, .arr l (voff vw) (vlen full vw)::q.mu⟩else .fail
   |_=> .fail)else .fail
 | .mu k::ps, .one false [.row l g rg i vw]::vs=> .obj l fun o=>if o.1=g then(match o.2 with
   | .rows _ k' rg' _ inn=>if h:k'=k then(if rg'=rg then(pass ps vs).bind fun q=> .ret ⟨(look (castL (k':= .sl k') (k:= .sl k) (by rw[h]) (inn.getD i [])) vw,q.x),q.fr,q.bo, .row l i (voff vw) (vlen (inn.getD i []) vw)::q.mu⟩else .fail)else .fail
   |_=> .fail)else .fail
 | .mr k::ps, .one false [.ref l g vw]::vs=> .obj l fun o=>if o.1=g then(match o.2 with
   | .rows mine k' _ hdr inn=>if h:k'=k then(if voff vw=0/\(mine=true\/vw.isNone=true)then .test (dup ((look hdr vw).map (·.1))) .fail (both (vlen hdr) hdr.length vw fun all=>(pass ps vs).bind fun q=>
     .ret ⟨(castL (k':= .sl (.sv k')) (k:= .sl (.sv k)) (by rw[h]) (nrm (look hdr vw) inn),q.x),q.fr,q.bo, .rows l (vlen hdr vw) all::q.mu⟩)else .fail)else .fail
   |_=> .fail)else .fail
 |_,_=> .fail
def backs:(ps:List PK)->MTy ps->List Mu->Cm (List Up)
 | [],_,[]=> .ret []
 | .mu k::ps,m, .arr l off _::ls=> .obj l fun o=>match o.2 with
   | .arr mine fz k' full=>if h:k=k' then(backs ps m.2 ls).bind fun us=> .ret (.set l o.1 (.arr mine fz k' (splice full (castL (k':= .sl k) (k:= .sl k') (by rw[h]) m.1) off))::us)else .fail
   |_=> .fail
 | .mu k::ps,m, .row l i off _::ls=> .obj l fun o=>match o.2 with
   | .rows mine k' rg hdr inn=>if h:k=k' then(backs ps m.2 ls).bind fun us=> .ret (.set l o.1 (.rows mine k' rg hdr (inn.set i (splice (inn.getD i []) (castL (k':= .sl k) (k:= .sl k') (by rw[h]) m.1) off)))::us)else .fail
   |_=> .fail
 | .mr k::ps,m, .rows l _ all::ls=> .obj l fun o=>match o.2 with
   | .rows mine k' rg _ _=>if h:k=k' then(backs ps m.2 ls).bind fun us=> .ret (.set l (if all=true then o.1 else o.1+1) (.rows mine k (rg+1) (hd0 m.1) (in0 m.1))::us)else .fail
   |_=> .fail
 | .ro _::ps,m,ls=>backs ps m ls
 | .bo _::ps,m,ls=>backs ps m ls
 | .pm _::ps,m,ls=>backs ps m ls
 | .fn _::ps,m,ls=>backs ps m ls
 |_,_,_=> .fail
def backC (o:Oper) (vs:List AV) (j:Nat):(r:RC)->r.Ty->Cm (List A0×List Up)
 | .ro k,x=> .ret (unpack false k x,[])
 | .own k,xs=> .obj (nm o j) fun g=> .ret ([.ref (nm o j) (g.1+1) none],[.set (nm o j) (g.1+1) (.arr true false k xs)])
 | .ov k,xs=> .obj (nm o j) fun g=> .ret ([.ref (nm o j) (g.1+1) (some (0,xs.2))],[.set (nm o j) (g.1+1) (.arr true false k xs.1)])
 | .rows k,xs=> .obj (nm o j) fun g=> .ret ([.ref (nm o j) (g.1+1) (some (0,xs.2))],[.set (nm o j) (g.1+1) (ao0 true k xs.1)])
 | .al i _,_=>match vs[i]? with
   |some (.one false [.ref l g vw])=> .ret ([.ref l g vw],[])
   |_=> .fail
def backS (o:Oper) (vs:List AV):(j:Nat)->(rs:List RC)->RsTy rs->Cm (List A0×List Up)
 |_,[],_=> .ret ([],[])
 |j,[r],x=>backC o vs j r x
 |j,r::s::t,x=>(backC o vs j r x.1).bind fun p=>(backS o vs (j+1) (s::t) x.2).bind fun q=> .ret (p.1++q.1,p.2++q.2)
def backR (o:Oper) (vs:List AV):(j:Nat)->(rs:List RK)->RkTy rs->Cm (List (Bool×List A0)×List Up)
 |_,[],_=> .ret ([],[])
 |j,[r],x=>(backS o vs j r.2 x).bind fun p=> .ret ([(r.1,p.1)],p.2)
 |j,r::s::t,x=>(backS o vs j r.2 x.1).bind fun p=>(backR o vs (j+r.2.length) (s::t) x.2).bind fun q=> .ret ((r.1,p.1)::q.1,p.2++q.2)
def clash (a b:List Nat):Bool:=a.any fun x=>b.any fun y=>Nat.beq x y
def sCall (o:Oper) (f:Nat) (vs:List AV):Cm (List Up):=match pick f vs cx.ct with
 |none=> .fail
 |some c=>match spl c.ar vs with
  |none=> .fail
  |some vs=>(pass c.ps vs).bind fun a=>
   if(clash (a.mu.map Mu.ob) a.bo||clash (a.mu.map Mu.ob) a.fr||dup (a.mu.map Mu.ob))=true then .fail else
   .opt (c.fn a.x) fun r=>(freezes a.fr).bind fun fs=>(backs c.ps r.2 a.mu).bind fun ms=>(backR o vs 0 c.rs r.1).bind fun b=>
    .ret (fs++ms++b.2++dput o (match c.tup,b.1 with|false,[(ag,cs)]=> .one ag cs|_,xs=> .tup xs))
def sShr (o:Oper) (s:IntKind×(List Int->Nat)) (vs:List AV):Cm (List Up):=match vs with
 | [.one false [.ref l g none]]=> .obj l fun ob=>if ob.1=g then(match ob.2 with
  | .arr true false (.int ik) full=>if ik=s.1 then .test (decide (List.length (α:=Int) full<=1000000000000)) (.ret (.set l (g+1) (.arr true false (.int ik) (List.take (α:=Int) (s.2 full) full))::dput o (.one false [.ref l (g+1) none]))) .fail else .fail
  |_=> .fail)else .fail
 |_=> .fail
def sBin (o:Oper) (op:BinOp) (t:Nat) (y:Operand) (vx vy:AV):Cm (List Up):=match vx with
 | .one false [.er b]=>if isNilC y=true then tdOf cx t fun d=>if d.k= .er then(match op with
   | .eql=> .ret (dput o (vl (.bool !b)))
   | .neq=> .ret (dput o (vl (.bool b)))
   |_=> .fail)else .fail else .fail
 | .one false [.v (.bool p)]=>sgv vy fun b=>(match b with
   | .bool q=>tdOf cx t fun d=>if d.k= .bool then(match op with
     | .eql=> .ret (dput o (vl (.bool (p==q))))
     | .neq=> .ret (dput o (vl (.bool !(p==q))))
     |_=> .fail)else .fail
   |_=> .fail)
 | .one false [.row l g rg i vw]=>if isNilS y=true then tdOf cx t fun d=>(match d.k with
   | .sl _=> .obj l fun ob=>if ob.1=g then(match ob.2 with
     | .rows _ _ rg' _ inn=>if rg'=rg then .test (decide (vlen (inn.getD i []) vw=0)) .fail (nilCmp o op false)else .fail
     |_=> .fail)else .fail
   |_=> .fail)else .fail
 | .one false [.v (.slice none _ _)]=>if isNilS y=true then tdOf cx t fun d=>(match d.k with
   | .sl _=>nilCmp o op true
   |_=> .fail)else .fail
 |_=>sgv vx fun a=>sgv vy fun b=>(bin op a b).bind fun r=> .ret (dput o (vl r))
def strOf (ys:List Int):ByteArray:=⟨(ys.map fun n=>UInt8.ofNat n.toNat).toArray⟩
def sConv (o:Oper) (s t:Nat) (a:A0):Cm (List Up):=tdOf cx s fun ds=>tdOf cx t fun dt=>match dt.k,ds.k,a with
 | .int k,_, .v (.int _ n)=> .ret (dput o (vl (.int k (k.wrap n))))
 | .str,_, .v (.string s)=> .ret (dput o (vl (.string s)))
 | .str, .sl (.int .u8),x=>elOf cx s fun e=>if e.k= .int .u8 then tail (.int .u8) x fun ys=> .ret (dput o (vl (.string (strOf ys))))else .fail
 |_,_,_=> .fail
def mnx (mx:Bool) (x y:Int):Int:=if mx=true then(if x<y then y else x)else(if y<x then y else x)
def svK:Kd->Kd
 | .sl k=> .sv k
 |k=>k
def kAt (o:Oper) (k:Kd):Kd:=if(cx.rowsAt.any fun x=>Nat.beq x (o.dst.getD 0))=true then svK k else k
def rwAt (o:Oper):Bool:=cx.rowsAt.any fun x=>Nat.beq x (o.dst.getD 0+1000000)
def nlAt (o:Oper):Bool:=cx.rowsAt.any fun x=>Nat.beq x (o.dst.getD 0+2000000)
def kRw (o:Oper) (k:Kd):Kd:=if nlAt cx o=true then .st k else k
def lnAt (o:Oper):Bool:=cx.rowsAt.any fun x=>Nat.beq x (o.dst.getD 0+3000000)
def sLent (o:Oper) (e:Td) (n:Nat) (vs:List (Nat×AV)):Cm (List Up):=match vs with
 | [(0, .one false [c])]=>if n=1/\e.k.sz=1/\e.k.zero.isSome=true/\okC c=true then new o 0 (.vars [c]) fun g=> .ret (dput o (.one false [.ref (nm o 0) g none]))else .fail
 |_=> .fail
def sRows1 (o:Oper) (e:Td) (n:Nat) (vs:List (Nat×AV)):Cm (List Up):=match e.k,vs with
 | .sl k,[]=>if n=0 then new o 0 (ao0 true k []) fun g=> .ret (dput o (.one false [.ref (nm o 0) g none]))else .fail
 | .sl k,[(0, .one false [.ref l2 g2 vw])]=>if(n=1/\strict k=false)/\voff vw=0/\nm o 0≠l2 then .obj l2 fun o2=>if o2.1=g2 then(match o2.2 with
   | .arr true false k2 full=>if h:k2=k then new o 0 (ao0 true k [(castL (k':= .sl k2) (k:= .sl k) (by rw[h]) full,vlen full vw)]) fun g=> .ret (.set l2 (g2+1) .no::dput o (.one false [.ref (nm o 0) g none]))else .fail
   |_=> .fail)else .fail else .fail
 |_,_=> .fail
def step (o:Oper):Cm (List Up):=match o.op with
 | .move x| .assign x=>(opnd x).bind fun v=> .ret (dput o v)
 | .pick c a b=>(opnd c).bind fun vc=>sgv vc fun
   | .bool t=> .test t ((opnd a).bind fun v=> .ret (dput o v)) ((opnd b).bind fun v=> .ret (dput o v))
   |_=> .fail
 | .binOp op t x y _=>(opnd x).bind fun vx=>(opnd y).bind fun vy=>sBin cx o op t y vx vy
 | .unOp op _ x=>(opnd x).bind fun vx=>sgv vx fun a=>(un op a).bind fun r=> .ret (dput o (vl r))
 | .extract t i=>(opnd t).bind fun
   | .tup xs=>(match xs[i]? with|some p=> .ret (dput o (.one p.1 p.2))|none=> .fail)
   |_=> .fail
 | .nilCheck x=>(opnd x).bind fun v=>match v with
   | .one false [.pt _ _ _]=> .ret (dput o v)
   | .one false [.pm _ _]=> .ret (dput o v)
   |_=> .fail
 | .convert s t x=>(opnd x).bind fun vx=>sg vx fun a=>sConv cx o s t a
 | .index t x i=>(opnd x).bind fun vx=>(opnd i).bind fun vi=>sgv vx fun a=>sgi vi fun i=>tdOf cx t fun d=>match d.k,a with
   | .str, .string s=> .test (decide (0<=i)) (.test (decide (i<(s.size:Int))) (.ret (dput o (vl (.int .u8 (byteAt s i))))) .fail) .fail
   |_,_=> .fail
 | .slice t x lo hi none=>(opnd x).bind fun vx=>(oopnd lo).bind fun l=>(oopnd hi).bind fun h=>sg vx fun a=>sSlice cx o t a l h
 | .indexAddr t x i=>(opnd x).bind fun vx=>(opnd i).bind fun vi=>sg vx fun a=>sgi vi fun i=>sIndexAddr cx o t a i
 | .fieldAddr s x f=>(opnd x).bind fun vx=>sg vx fun a=>tdOf cx s fun d=>if d.ag=true then(match d.fs[f]? with
   |some (off,ft)=>tdOf cx ft fun _=>(match a with
     | .pt fl k x=>(match sub k off x with|some ⟨k',x'⟩=> .ret (dput o (.one false [.pt fl k' x']))|none=> .fail)
     | .pm k x=>(match sub k off x with|some ⟨k',x'⟩=> .ret (dput o (.one false [.pm k' x']))|none=> .fail)
     | .pv l g j=> .obj l fun ob=>if ob.1=g then(match ob.2 with| .vars _=> .ret (dput o (.one false [.pv l g (j+off)]))|_=> .fail)else .fail
     | .pa l g i j=> .obj l fun ob=>if ob.1=g then(match ob.2 with| .arr _ _ _ _=> .ret (dput o (.one false [.pa l g i (j+off)]))|_=> .fail)else .fail
     | .pr l g rg i e j=> .obj l fun ob=>if ob.1=g then(match ob.2 with| .rows _ _ rg' _ _=>if rg'=rg then .ret (dput o (.one false [.pr l g rg i e (j+off)]))else .fail|_=> .fail)else .fail
     |_=> .fail)
   |none=> .fail)else .fail
 | .load t a=>(opnd a).bind fun va=>sg va fun a=>sLoad cx o t a
 | .store t a x=>if o.dst.isSome=true then .fail else(opnd a).bind fun va=>(opnd x).bind fun vx=>sg va fun a=>sStore cx t a vx
 | .alloc t=>tdOf cx t fun d=>(match d.k.zero with
   |some cs=>new o 0 (.vars (cs.map .v)) fun g=> .ret (dput o (.one false [.pv (nm o 0) g 0]))
   |none=> .fail)
 | .box t x=>(opnd x).bind fun vx=>tdOf cx t fun d=>if(cellsOf vx).length=d.k.sz/\okCells (cellsOf vx)=true then
   new o 0 (.vars (cellsOf vx)) fun g=> .ret (dput o (.one false [.pv (nm o 0) g 0]))else .fail
 | .build t ps=>tdOf cx t fun d=>if d.ag=true then(parts ps.toList).bind fun vs=>(match d.k.zero with
   |some cs=>(fillC cx d.fs (cs.map .v) vs).bind fun cs=> .ret (dput o (.one true cs))
   |none=> .fail)else .fail
 | .buildSlice t n ps=>elOf cx t fun e=>(parts ps.toList).bind fun vs=>if rwAt cx o=true then sRows1 o e n vs else if lnAt cx o=true then sLent o e n vs else if vs.length=n/\n*e.k.sz<=16777216/\e.k.zero.isSome=true then
   (packs e.k vs 0).bind fun p=>(freezes p.fr).bind fun fs=>
    (new o 0 (.arr true false e.k p.x) fun g=> .ret (dput o (.one false [.ref (nm o 0) g none]))).bind fun us=> .ret (fs++us)else .fail
 | .makeSlice t on oc=>(opnd on).bind fun vn=>(opnd oc).bind fun vc=>sgi vn fun n=>sgi vc fun c=>elOf cx t fun e=>if e.bytes=0 then .fail else
   .test (decide (0<=n)) (.test (decide (n<=c)) (.test (decide (c*(e.bytes:Int)<=281474976710656)) (if rwAt cx o=true then(match e.k with
    | .sl k=>new o 0 (ao0 true (kRw cx o k) (List.replicate c.toNat ([],0))) fun g=> .ret (dput o (.one false [.ref (nm o 0) g (if sameOp on oc then none else some (0,n.toNat))]))
    |_=> .fail)else match e.k.zero with
    |some _=>new o 0 (.arr true false (kAt cx o e.k) (List.replicate c.toNat (kAt cx o e.k).dflt)) fun g=> .ret (dput o (.one false [.ref (nm o 0) g (if sameOp on oc then none else some (0,n.toNat))]))
    |none=> .fail) .fail) .fail) .fail
 | .call c=>(opnds c.args.toList).bind fun vs=>match c.callee with
   | .builtin .len=>(match c.argTypes[0]?,vs with|some t,[v]=>sg v fun a=>sLen cx o t a|_,_=> .fail)
   | .builtin .append=>(match c.argTypes.toList,vs with| [t,t'],[s,x]=>if t=t' then sg s fun s=>sg x fun x=>sAppend cx o t s x else .fail|_,_=> .fail)
   | .builtin .copy=>(match c.argTypes[0]?,vs with|some t,[s,x]=>sg s fun s=>sg x fun x=>sCopy cx o t s x|_,_=> .fail)
   | .builtin .min=>(match vs with| [.one false [.v (.int k a)], .one false [.v (.int k' b)]]=>if k=k' then .ret (dput o (vl (.int k (mnx false a b))))else .fail|_=> .fail)
   | .builtin .max=>(match vs with| [.one false [.v (.int k a)], .one false [.v (.int k' b)]]=>if k=k' then .ret (dput o (vl (.int k (mnx true a b))))else .fail|_=> .fail)
   | .value f=>(opnd f).bind fun vf=>match fnOf vf with
     |some f=>(match find f cx.shr with|some s=>sShr o s vs|none=>sCall cx o f vs)
     |none=> .fail
   |_=> .fail
 |_=> .fail
end
end Go.Cm
