import Derived.Test.YtdpljomfkoojnaaGreatDoorCmB
namespace Go.Cm
def ofV:Value->AV
 | .agg cs=> .one true (cs.toList.map .v)
 |v=> .one false [.v v]
def b0v:Operand->Cm AV
 | .tmp t=> .slot t .ret
 | .const v=> .ret (ofV v)
 | .func f=> .ret (.one false [.v (.func (.func f) #[] #[])])
 | .global g=> .ret (.one false [.v (.pointer (some ⟨g,0,none⟩))])
def g3o:List Operand->Cm (List AV)
 | []=> .ret []
 |x::xs=>(b0v x).bind fun v=>(g3o xs).bind fun vs=> .ret (v::vs)
def sg {α:Type} :AV->(A0->Cm α)->Cm α
 | .one false [a],k=>k a
 |_,_=> .fail
def sgv {α:Type} :AV->(Value->Cm α)->Cm α
 | .one false [.v x],k=>k x
 |_,_=> .fail
def sgi {α:Type} :AV->(Int->Cm α)->Cm α
 | .one false [.v (.int .i64 n)],k=>k n
 |_,_=> .fail
def vl (x:Value):AV:= .one false [.v x]
def bin (op:BinOp):Value->Value->Cm Value
 | .int k a, .int k' b=>match op with
  | .shl=> .test (decide (b<0)) .fail (.ret (.int k (k.wrap (a*2^(min b.toNat k.bits)))))
  | .shr=> .test (decide (b<0)) .fail (.ret (.int k (a.fdiv (2^(min b.toNat k.bits)))))
  |op=>if k=k' then(match op with
   | .add=> .ret (.int k (k.wrap (a+b)))
   | .sub=> .ret (.int k (k.wrap (a - b)))
   | .mul=> .ret (.int k (k.wrap (a*b)))
   | .quo=> .test (decide (b=0)) .fail (.ret (.int k (k.wrap (a.tdiv b))))
   | .rem=> .test (decide (b=0)) .fail (.ret (.int k (a.tmod b)))
   | .or=> .ret (.int k (k.wrap (BitVec.ofInt k.bits a|||BitVec.ofInt k.bits b).toNat))
   | .and=> .ret (.int k (k.wrap (BitVec.ofInt k.bits a&&& BitVec.ofInt k.bits b).toNat))
   | .eql=> .ret (.bool (a==b))
   | .neq=> .ret (.bool (a != b))
   | .lss=> .ret (.bool (decide (a<b)))
   | .leq=> .ret (.bool (decide (a<=b)))
   | .gtr=> .ret (.bool (decide (a>b)))
   | .geq=> .ret (.bool (decide (a>=b)))
   |_=> .fail)else .fail
 | .string a, .string b=>match op with
  | .add=> .test (decide (a.size+b.size<=9223372036854775807)) (.ret (.string (a++b))) .fail
  | .eql=> .ret (.bool (a.toList==b.toList))
  | .neq=> .ret (.bool !(a.toList==b.toList))
  |_=> .fail
 |_,_=> .fail
def un (op:UnOp):Value->Cm Value
 | .int k n=>match op with
  | .neg=> .ret (.int k (k.wrap (0 - n)))
  |_=> .fail
 | .bool b=>match op with
  | .not=> .ret (.bool !b)
  |_=> .fail
 |_=> .fail
def a2h (s:ByteArray) (i:Int):Int:=((s.data.toList.getD i.toNat 0).toNat:Int)
def dput (o:Oper) (v:AV):List Up:=match o.dst with|some d=>[.put d v]|none=>[]
def nm (o:Oper) (j:Nat):Nat:=(o.dst.getD 0)*8+j
def splice {α:Type} (xs ys:List α) (j:Nat):List α:=xs.take j++ys++xs.drop (j+ys.length)
def sub:(k:Kd)->Nat->k.Ty->Option ((k':Kd)×k'.Ty)
 | .st f,d,x=>sub f d x
 | .pair a b,d,x=>if d<a.sz then sub a d x.1 else sub b (d - a.sz) x.2
 |k,0,x=>some ⟨k,x⟩
 |_,_+1,_=>none
def c3m {α:Type} (x:Option AV) (dflt:Int) (k:Int->Cm α):Cm α:=match x with
 |none=>k dflt
 |some v=>sgi v k
def e8x:Option Operand->Cm (Option AV)
 |none=> .ret none
 |some x=>(b0v x).bind fun v=> .ret (some v)
def new (o:Oper) (j:Nat) (a:AO) (k:Nat->Cm (List Up)):Cm (List Up):=
 .obj (nm o j) fun g=>(k (g.1+1)).bind fun us=> .ret (.set (nm o j) (g.1+1) a::us)
def d7c:Operand->Operand->Bool
 | .tmp a, .tmp b=>Nat.beq a b
 |_,_=>false
def f7o:Operand->Bool
 | .const .nilIface=>true
 |_=>false
section
variable (cx:Cx)
def c7z {α:Type} (t:Nat) (k:Td->Cm α):Cm α:=match d6x t cx.td with
 |some d=>k d
 |none=> .fail
def e8i {α:Type} (t:Nat) (k:Td->Cm α):Cm α:=c7z cx t fun d=>match d.k with
 | .sl _=>c7z cx d.el k
 |_=> .fail
def c5r {α:Type} :A0->(List A0->Cm α)->Cm α
 | .pt fl k x,κ=>κ (a6w fl k x)
 | .pm k x,κ=>κ (a6w false k x)
 | .pv l g j,κ=> .obj l fun o=>if o.1=g then(match o.2 with| .vars cs=>κ (cs.drop j)|_=> .fail)else .fail
 | .pa l g i j,κ=> .obj l fun o=>if o.1=g then(match o.2 with
   | .arr _ _ k full=>κ ((a6w false k (full.getD i k.dflt)).drop j)
   | .rows _ _ rg hdr _=>κ ([A0.row l g rg (hdr.getD i (0,0)).1 (some (0,(hdr.getD i (0,0)).2))].drop j)
   |_=> .fail)else .fail
 | .pr l g rg i e j,κ=> .obj l fun o=>if o.1=g then(match o.2 with
   | .rows _ k rg' _ inn=>if rg'=rg then κ ((a6w false k ((inn.getD i []).getD e k.dflt)).drop j)else .fail
   |_=> .fail)else .fail
 |_,_=> .fail
def cellsOf:AV->List A0
 | .one _ cs=>cs
 | .tup _=>[]
def okC:A0->Bool
 | .bot=>false
 | .v x=>x.oneCell'
 |_=>true
def b7s (cs:List A0):Bool:=cs.all okC
def g9a (o:Oper) (t:Nat) (a:A0):Cm (List Up):=c7z cx t fun d=>c5r a fun cs=>
 if(cs.take d.k.sz).length=d.k.sz then .ret (dput o (.one d.ag (cs.take d.k.sz)))else .fail
def b9j:List Nat->Cm (List Up)
 | []=> .ret []
 |l::ls=> .obj l fun o=>match o.2 with
  | .arr mine _ k full=>(b9j ls).bind fun us=> .ret (.set l o.1 (.arr mine true k full)::us)
  |_=> .fail
def f7p (t:Nat) (a:A0) (v:AV):Cm (List Up):=c7z cx t fun d=>
 if(cellsOf v).length=d.k.sz then(match a with
  | .pv l g j=> .obj l fun o=>if o.1=g then(match o.2 with
    | .vars cs=>if j+d.k.sz<=cs.length/\b7s (cellsOf v)=true then .ret [.set l g (.vars (splice cs (cellsOf v) j))]else .fail
    |_=> .fail)else .fail
  | .pa l g i j=> .obj l fun o=>if o.1=g then(match o.2 with
    | .arr mine false k full=>if j+d.k.sz<=k.sz then
      (b0w false k (splice (a6w false k (full.getD i k.dflt)) (cellsOf v) j)).bind fun p=>
       if(p.fr.any fun x=>Nat.beq x l)=true then .fail else(b9j p.fr).bind fun fs=> .ret (fs++[.set l g (.arr mine false k (full.set i p.x))])
      else .fail
    | .rows mine k rg hdr inn=>if j=0 then(match cellsOf v with
      | [.row l' g' rg' i' vw]=>if(l'=l/\g'=g)/\rg'=rg/\a0v vw=0 then .ret [.set l g (.rows mine k rg (hdr.set i (i',a1h (inn.getD i' []) vw)) inn)]else .fail
      | [.ref l2 g2 vw]=>if mine=true/\a0v vw=0 then .obj l2 fun o2=>if o2.1=g2 then(match o2.2 with
        | .arr true false k2 full=>if h:k2=k then .ret [.set l2 (g2+1) .no, .set l g (.rows mine k rg (hdr.set i (inn.length,a1h full vw)) (inn++[a5b (k':= .sl k2) (k:= .sl k) (by rw[h]) full]))]else .fail
        |_=> .fail)else .fail else .fail
      |_=> .fail)else .fail
    |_=> .fail)else .fail
  | .pr l g rg i e j=> .obj l fun o=>if o.1=g then(match o.2 with
    | .rows mine k rg' hdr inn=>if rg'=rg/\j+d.k.sz<=k.sz then
      (b0w false k (splice (a6w false k ((inn.getD i []).getD e k.dflt)) (cellsOf v) j)).bind fun p=>
       (b9j p.fr).bind fun fs=> .ret (fs++[.set l g (.rows mine k rg' hdr (inn.set i ((inn.getD i []).set e p.x)))])
      else .fail
    |_=> .fail)else .fail
  |_=> .fail)else .fail
def f7q (fs:List (Nat×Nat)):List A0->List (Nat×AV)->Cm (List A0)
 |cs,[]=> .ret cs
 |cs,(i,v)::r=>match fs[i]? with
  |some (off,ft)=>c7z cx ft fun d=>if(cellsOf v).length=d.k.sz/\off+d.k.sz<=cs.length/\b7s (cellsOf v)=true then f7q fs (splice cs (cellsOf v) off) r else .fail
  |none=> .fail
def e8y:List (Nat×Operand)->Cm (List (Nat×AV))
 | []=> .ret []
 |(i,x)::r=>(b0v x).bind fun v=>(e8y r).bind fun vs=> .ret ((i,v)::vs)
def f7r (k:Kd):List (Nat×AV)->Nat->Cm (Pk (List k.Ty))
 | [],_=> .ret ⟨[],[],[],[]⟩
 |(i,v)::r,n=>if i=n/\b7s (cellsOf v)=true/\(cellsOf v).length=k.sz then(b0w false k (cellsOf v)).bind fun p=>(f7r k r (n+1)).bind fun q=> .ret ⟨p.x::q.x,p.fr++q.fr,p.bo++q.bo,[]⟩else .fail
def c5s (o:Oper) (t:Nat) (x:A0) (i:Int):Cm (List Up):=e8i cx t fun e=>match x with
 | .sl fl k xs=>if e.k.sz=k.sz then .test (decide (0<=i)) (.test (decide (i<(xs.length:Int))) (.ret (dput o (.one false [.pt fl k (xs.getD i.toNat k.dflt)]))) .fail) .fail else .fail
 | .sv fl k xs n=>if e.k.sz=k.sz then .test (decide (0<=i)) (.test (decide (i<(n:Int))) (.ret (dput o (.one false [.pt fl k (xs.getD i.toNat k.dflt)]))) .fail) .fail else .fail
 | .ref l g vw=> .obj l fun ob=>if ob.1=g then(match ob.2 with
   | .arr _ _ k full=>if e.k.sz=k.sz then .test (decide (0<=i)) (.test (decide (i<(a1h full vw:Int))) (.ret (dput o (.one false [.pa l g (a0v vw+i.toNat) 0]))) .fail) .fail else .fail
   | .rows _ _ _ hdr _=>if e.k.sz=1 then .test (decide (0<=i)) (.test (decide (i<(a1h hdr vw:Int))) (.ret (dput o (.one false [.pa l g (a0v vw+i.toNat) 0]))) .fail) .fail else .fail
   |_=> .fail)else .fail
 | .row l g rg q vw=> .obj l fun ob=>if ob.1=g then(match ob.2 with
   | .rows _ k rg' _ inn=>if rg'=rg/\e.k.sz=k.sz then .test (decide (0<=i)) (.test (decide (i<(a1h (inn.getD q []) vw:Int))) (.ret (dput o (.one false [.pr l g rg q (a0v vw+i.toNat) 0]))) .fail) .fail else .fail
   |_=> .fail)else .fail
 |_=> .fail
def f7s (o:Oper) (t:Nat) (x:A0) (lo hi:Option AV):Cm (List Up):=match x with
 | .v (.string s)=>c7z cx t fun d=>if d.k= .str then c3m hi (s.size:Int) fun h=>c3m lo 0 fun l=>
   .test (decide (0<=h)) (.test (decide (h<=(s.size:Int))) (.test (decide (0<=l)) (.test (decide (l<=h)) (.ret (dput o (vl (.string (s.extract l.toNat h.toNat))))) .fail) .fail) .fail) .fail else .fail
 | .sl fl k xs=>e8i cx t fun e=>if e.k.sz=k.sz then c3m hi (xs.length:Int) fun h=>c3m lo 0 fun l=>
   .test (decide (0<=h)) (.test (decide (h<=(xs.length:Int))) (.test (decide (0<=l)) (.test (decide (l<=h)) (.ret (dput o (.one false [.sl fl k (seen xs l.toNat (h.toNat - l.toNat))]))) .fail) .fail) .fail) .fail else .fail
 | .sv fl k xs n=>e8i cx t fun e=>if e.k.sz=k.sz then c3m hi (n:Int) fun h=>c3m lo 0 fun l=>
   .test (decide (0<=h)) (.test (decide (h<=(xs.length:Int))) (.test (decide (0<=l)) (.test (decide (l<=h)) (.ret (dput o (.one false [.sl fl k (seen xs l.toNat (h.toNat - l.toNat))]))) .fail) .fail) .fail) .fail else .fail
 | .ref l0 g vw=> .obj l0 fun ob=>if ob.1=g then(match ob.2 with
   | .arr _ _ k full=>e8i cx t fun e=>if e.k.sz=k.sz then c3m hi (a1h full vw:Int) fun h=>c3m lo 0 fun l=>
     .test (decide (0<=h)) (.test (decide (h+(a0v vw:Int)<=(full.length:Int))) (.test (decide (0<=l)) (.test (decide (l<=h)) (.ret (dput o (.one false [.ref l0 g (some (a0v vw+l.toNat,h.toNat - l.toNat))]))) .fail) .fail) .fail) .fail else .fail
   | .rows _ _ _ hdr _=>e8i cx t fun e=>if e.k.sz=1 then c3m hi (a1h hdr vw:Int) fun h=>c3m lo 0 fun l=>
     .test (decide (0<=h)) (.test (decide (h+(a0v vw:Int)<=(hdr.length:Int))) (.test (decide (0<=l)) (.test (decide (l<=h)) (.ret (dput o (.one false [.ref l0 g (some (a0v vw+l.toNat,h.toNat - l.toNat))]))) .fail) .fail) .fail) .fail else .fail
   |_=> .fail)else .fail
 | .row l0 g rg q vw=> .obj l0 fun ob=>if ob.1=g then(match ob.2 with
   | .rows _ k rg' _ inn=>e8i cx t fun e=>if rg'=rg/\e.k.sz=k.sz then c3m hi (a1h (inn.getD q []) vw:Int) fun h=>c3m lo 0 fun l=>
     .test (decide (0<=h)) (.test (decide (h+(a0v vw:Int)<=((inn.getD q []).length:Int))) (.test (decide (0<=l)) (.test (decide (l<=h)) (.ret (dput o (.one false [.row l0 g rg q (some (a0v vw+l.toNat,h.toNat - l.toNat))]))) .fail) .fail) .fail) .fail else .fail
   |_=> .fail)else .fail
 |_=> .fail
def sLen (o:Oper) (t:Nat) (x:A0):Cm (List Up):=c7z cx t fun d=>match d.k,x with
 | .str, .v (.string s)=> .ret (dput o (vl (.int .i64 (s.size:Int))))
 | .sl _, .v (.slice none 0 0)=> .ret (dput o (vl (.int .i64 0)))
 | .sl _, .sl _ _ xs=> .ret (dput o (vl (.int .i64 (xs.length:Int))))
 | .sl _, .sv _ _ _ n=> .ret (dput o (vl (.int .i64 (n:Int))))
 | .sl _, .ref l g vw=> .obj l fun ob=>if ob.1=g then(match ob.2 with
   | .arr _ _ _ full=> .ret (dput o (vl (.int .i64 (a1h full vw:Int))))
   | .rows _ _ _ hdr _=> .ret (dput o (vl (.int .i64 (a1h hdr vw:Int))))
   |_=> .fail)else .fail
 | .sl _, .row l g rg q vw=> .obj l fun ob=>if ob.1=g then(match ob.2 with
   | .rows _ _ rg' _ inn=>if rg'=rg then .ret (dput o (vl (.int .i64 (a1h (inn.getD q []) vw:Int))))else .fail
   |_=> .fail)else .fail
 |_,_=> .fail
def tail (k:Kd) (x:A0) (κ:List k.Ty->Cm (List Up)):Cm (List Up):=match x with
 | .v (.slice none 0 0)=>κ []
 | .sl fl k' ys=>if h:k'=k then(if(!fl||k.flat)=true then κ (a5b (k':= .sl k') (k:= .sl k) (by rw[h]) ys)else .fail)else .fail
 | .sv fl k' ys n=>if h:k'=k then(if(!fl||k.flat)=true then κ (a5b (k':= .sl k') (k:= .sl k) (by rw[h]) (ys.take n))else .fail)else .fail
 | .ref l g vw=> .obj l fun o=>if o.1=g then(match o.2 with
   | .arr _ _ k' full=>if h:k'=k then κ (b8w (a5b (k':= .sl k') (k:= .sl k) (by rw[h]) full) vw)else .fail
   |_=> .fail)else .fail
 |_=> .fail
def f2j (H:Nat×AO) (g:Nat):Option ((k:Kd)×(List (Nat×Nat)×List (List k.Ty))):=if H.1=g then(match H.2 with
 | .rows true k _ hdr inn=>some ⟨k,hdr,inn⟩
 |_=>none)else none
def a7k (n:Nat) (hdr hdr2:List (Nat×Nat)):List (Nat×Nat):=hdr++hdr2.map fun p=>(p.1+n,p.2)
def d9b (o:Oper) (e:Td) (s:A0) (l2 g2:Nat) (k2:Kd) (hdr2:List (Nat×Nat)) (inn2:List (List k2.Ty)):Cm (List Up):=match s with
 | .v (.slice none 0 0)=> .test (decide (hdr2.length*e.bytes<=140737488355328))
   (if nm o 0=l2 then .fail else new o 0 (.rows true k2 0 hdr2 inn2) fun g=> .ret (.set l2 (g2+1) .no::dput o (.one false [.ref (nm o 0) g none]))) .fail
 | .ref l g none=>if l=l2 then .fail else .obj l fun ob=>if ob.1=g then(match ob.2 with
   | .rows true k _ hdr inn=>if h:k2=k then .test (decide ((hdr.length+hdr2.length)*e.bytes<=140737488355328))
     (.ret (.set l2 (g2+1) .no:: .set l (g+1) (.rows true k 0 (a7k inn.length hdr hdr2) (inn++inn2.map (a5b (k':= .sl k2) (k:= .sl k) (by rw[h]))))::dput o (.one false [.ref l (g+1) none]))) .fail
     else .fail
   |_=> .fail)else .fail
 |_=> .fail
def d9c (o:Oper) (e:Td) (s x:A0):Cm (List Up):=match s with
 | .v (.slice none 0 0)=>tail e.k x fun ys=> .test (decide (ys.length*e.bytes<=140737488355328))
   (new o 0 (.arr true false e.k ys) fun g=> .ret (dput o (.one false [.ref (nm o 0) g none]))) .fail
 | .ref l g vw=> .obj l fun ob=>if ob.1=g then(match ob.2 with
   | .arr true false k full=>if h:k=e.k then tail e.k x fun ys=> .test (decide ((a1h full vw+ys.length)*e.bytes<=140737488355328))
     (.ret (.set l (g+1) (.arr true false e.k (b8w (a5b (k':= .sl k) (k:= .sl e.k) (by rw[h]) full) vw++ys))::dput o (.one false [.ref l (g+1) none]))) .fail
     else .fail
   |_=> .fail)else .fail
 |_=> .fail
def e8z (o:Oper) (t:Nat) (s x:A0):Cm (List Up):=e8i cx t fun e=>if e.bytes=0\/e.k.zero.isNone=true then .fail else match x with
 | .ref l2 g2 none=> .obj l2 fun o2=>match f2j o2 g2 with
   |some ⟨k2,hdr2,inn2⟩=>if e.k.sz=1 then d9b o e s l2 g2 k2 hdr2 inn2 else .fail
   |none=>d9c o e s x
 |x=>d9c o e s x
def g9b (o:Oper) (t:Nat) (s x:A0):Cm (List Up):=e8i cx t fun e=>match s with
 | .ref l g vw=> .obj l fun ob=>if ob.1=g then(match ob.2 with
   | .arr mine false k full=>if e.k.sz=k.sz then tail k x fun ys=>
     .ret (.set l g (.arr mine false k (splice full (ys.take (a1h full vw)) (a0v vw)))::dput o (vl (.int .i64 ((min ys.length (a1h full vw):Nat):Int))))
     else .fail
   |_=> .fail)else .fail
 |_=> .fail
def h2w:AV->Option Nat
 | .one false [.v (.func (.func f) a b)]=>if a.size=0/\b.size=0 then some f else none
 |_=>none
def e8j:List PK->List AV->Bool
 | [],[]=>true
 | .fn f::ps,v::vs=>(match h2w v with|some g=>Nat.beq f g|none=>false)&&e8j ps vs
 | .ro _::ps,_::vs=>e8j ps vs
 | .bo _::ps,_::vs=>e8j ps vs
 | .pm _::ps,_::vs=>e8j ps vs
 | .mu _::ps,_::vs=>e8j ps vs
 | .mr _::ps,_::vs=>e8j ps vs
 | [],_::_=>false
 |_::_,[]=>false
def spl:List Nat->List AV->Option (List AV)
 | [],vs=>some vs
 |0::r,v::vs=>(spl r vs).map fun q=>v::q
 |(n+1)::r, .one true cs::vs=>if cs.length=n+1 then(spl r vs).map fun q=>(cs.map fun c=>AV.one false [c])++q else none
 |_::_,_=>none
def g3p (c:Ct) (vs:List AV):Bool:=match spl c.ar vs with
 |some vs'=>e8j c.ps vs'
 |none=>false
def pick (f:Nat) (vs:List AV):List (Nat×Ct)->Option Ct
 | []=>none
 |(g,c)::r=>bif Nat.beq g f&&g3p c vs then some c else pick f vs r
def dup:List Nat->Bool
 | []=>false
 |x::xs=>xs.any (fun y=>Nat.beq x y)||dup xs
inductive Mu where
 |arr (l off len:Nat)
 |row (l i off len:Nat)
 |rows (l len:Nat) (all:Bool)
def Mu.ob:Mu->Nat
 | .arr l _ _=>l
 | .row l _ _ _=>l
 | .rows l _ _=>l
structure Pa (α:Type) where
 x:α
 fr:List Nat
 bo:List Nat
 mu:List Mu
def c0v:Kd->Bool
 | .st _=>true
 |_=>false
def h2x {α:Type} (f:Option (Nat×Nat)->Nat) (n:Nat):Option (Nat×Nat)->(Bool->Cm α)->Cm α
 |none,m=>m true
 |some p,m=> .test (decide (f (some p)=n)) (m true) (m false)
def g9c {β:Type} (k:Kd):AV->(k.Ty->List Nat->Cm β)->Cm β
 | .one false [.pm k' x],κ=>if h:k'=k then κ (a5b h x) []else .fail
 | .one false [.pt false k' x],κ=>if h:k'=k then κ (a5b h x) []else .fail
 | .one false [.pv l g j],κ=> .obj l fun o=>if o.1=g then(match o.2 with
   | .vars cs=>(b0w false k (cs.drop j)).bind fun p=>if p.fr.isEmpty=true then κ p.x [l]else .fail
   |_=> .fail)else .fail
 |_,_=> .fail
def e3m:(ps:List PK)->List AV->Cm (Pa (PTy ps))
 | [],[]=> .ret ⟨(),[],[],[]⟩
 | .ro k::ps, .one ag cs::vs=>if ag=c0v k then(b0w false k cs).bind fun p=>match p.rest with
   | []=>(e3m ps vs).bind fun q=> .ret ⟨(p.x,q.x),p.fr++q.fr,p.bo++q.bo,q.mu⟩
   |_=> .fail
   else .fail
 | .bo k::ps, .one ag cs::vs=>if ag=c0v k then(b0w true k cs).bind fun p=>match p.rest with
   | []=>(e3m ps vs).bind fun q=> .ret ⟨(p.x,q.x),p.fr++q.fr,p.bo++q.bo,q.mu⟩
   |_=> .fail
   else .fail
 | .fn _::ps,_::vs=>(e3m ps vs).bind fun q=> .ret ⟨((),q.x),q.fr,q.bo,q.mu⟩
 | .pm k::ps,v::vs=>g9c k v fun x bl=>(e3m ps vs).bind fun q=> .ret ⟨(x,q.x),q.fr,bl++q.bo,q.mu⟩
 | .mu k::ps, .one false [.ref l g vw]::vs=> .obj l fun o=>if o.1=g then(match o.2 with
   | .arr _ false k' full=>if h:k'=k then(e3m ps vs).bind fun q=> .ret ⟨(b8w (a5b (k':= .sl k') (k:= .sl k) (by rw[h]) full) vw,q.x),q.fr,q.bo, .arr l (a0v vw) (a1h full vw)::q.mu⟩else .fail
   |_=> .fail)else .fail
 | .mu k::ps, .one false [.row l g rg i vw]::vs=> .obj l fun o=>if o.1=g then(match o.2 with
   | .rows _ k' rg' _ inn=>if h:k'=k then(if rg'=rg then(e3m ps vs).bind fun q=> .ret ⟨(b8w (a5b (k':= .sl k') (k:= .sl k) (by rw[h]) (inn.getD i [])) vw,q.x),q.fr,q.bo, .row l i (a0v vw) (a1h (inn.getD i []) vw)::q.mu⟩else .fail)else .fail
   |_=> .fail)else .fail
 | .mr k::ps, .one false [.ref l g vw]::vs=> .obj l fun o=>if o.1=g then(match o.2 with
   | .rows mine k' _ hdr inn=>if h:k'=k then(if a0v vw=0/\(mine=true\/vw.isNone=true)then .test (dup ((b8w hdr vw).map (·.1))) .fail (h2x (a1h hdr) hdr.length vw fun all=>(e3m ps vs).bind fun q=>
     .ret ⟨(a5b (k':= .sl (.sv k')) (k:= .sl (.sv k)) (by rw[h]) (nrm (b8w hdr vw) inn),q.x),q.fr,q.bo, .rows l (a1h hdr vw) all::q.mu⟩)else .fail)else .fail
   |_=> .fail)else .fail
 |_,_=> .fail
def c8r:(ps:List PK)->MTy ps->List Mu->Cm (List Up)
 | [],_,[]=> .ret []
 | .mu k::ps,m, .arr l off _::ls=> .obj l fun o=>match o.2 with
   | .arr mine fz k' full=>if h:k=k' then(c8r ps m.2 ls).bind fun us=> .ret (.set l o.1 (.arr mine fz k' (splice full (a5b (k':= .sl k) (k:= .sl k') (by rw[h]) m.1) off))::us)else .fail
   |_=> .fail
 | .mu k::ps,m, .row l i off _::ls=> .obj l fun o=>match o.2 with
   | .rows mine k' rg hdr inn=>if h:k=k' then(c8r ps m.2 ls).bind fun us=> .ret (.set l o.1 (.rows mine k' rg hdr (inn.set i (splice (inn.getD i []) (a5b (k':= .sl k) (k:= .sl k') (by rw[h]) m.1) off)))::us)else .fail
   |_=> .fail
 | .mr k::ps,m, .rows l _ all::ls=> .obj l fun o=>match o.2 with
   | .rows mine k' rg _ _=>if h:k=k' then(c8r ps m.2 ls).bind fun us=> .ret (.set l (if all=true then o.1 else o.1+1) (.rows mine k (rg+1) (hd0 m.1) (in0 m.1))::us)else .fail
   |_=> .fail
 | .ro _::ps,m,ls=>c8r ps m ls
 | .bo _::ps,m,ls=>c8r ps m ls
 | .pm _::ps,m,ls=>c8r ps m ls
 | .fn _::ps,m,ls=>c8r ps m ls
 |_,_,_=> .fail
def e9a (o:Oper) (vs:List AV) (j:Nat):(r:RC)->r.Ty->Cm (List A0×List Up)
 | .ro k,x=> .ret (a6w false k x,[])
 | .own k,xs=> .obj (nm o j) fun g=> .ret ([.ref (nm o j) (g.1+1) none],[.set (nm o j) (g.1+1) (.arr true false k xs)])
 | .ov k,xs=> .obj (nm o j) fun g=> .ret ([.ref (nm o j) (g.1+1) (some (0,xs.2))],[.set (nm o j) (g.1+1) (.arr true false k xs.1)])
 | .rows k,xs=> .obj (nm o j) fun g=> .ret ([.ref (nm o j) (g.1+1) (some (0,xs.2))],[.set (nm o j) (g.1+1) (ao0 true k xs.1)])
 | .al i _,_=>match vs[i]? with
   |some (.one false [.ref l g vw])=> .ret ([.ref l g vw],[])
   |_=> .fail
def f7t (o:Oper) (vs:List AV):(j:Nat)->(rs:List RC)->g7a rs->Cm (List A0×List Up)
 |_,[],_=> .ret ([],[])
 |j,[r],x=>e9a o vs j r x
 |j,r::s::t,x=>(e9a o vs j r x.1).bind fun p=>(f7t o vs (j+1) (s::t) x.2).bind fun q=> .ret (p.1++q.1,p.2++q.2)
def f7u (o:Oper) (vs:List AV):(j:Nat)->(rs:List RK)->e8b rs->Cm (List (Bool×List A0)×List Up)
 |_,[],_=> .ret ([],[])
 |j,[r],x=>(f7t o vs j r.2 x).bind fun p=> .ret ([(r.1,p.1)],p.2)
 |j,r::s::t,x=>(f7t o vs j r.2 x.1).bind fun p=>(f7u o vs (j+r.2.length) (s::t) x.2).bind fun q=> .ret ((r.1,p.1)::q.1,p.2++q.2)
def f4g (a b:List Nat):Bool:=a.any fun x=>b.any fun y=>Nat.beq x y
def g9d (o:Oper) (f:Nat) (vs:List AV):Cm (List Up):=match pick f vs cx.ct with
 |none=> .fail
 |some c=>match spl c.ar vs with
  |none=> .fail
  |some vs=>(e3m c.ps vs).bind fun a=>
   if(f4g (a.mu.map Mu.ob) a.bo||f4g (a.mu.map Mu.ob) a.fr||dup (a.mu.map Mu.ob))=true then .fail else
   .opt (c.fn a.x) fun r=>(b9j a.fr).bind fun fs=>(c8r c.ps r.2 a.mu).bind fun ms=>(f7u o vs 0 c.rs r.1).bind fun b=>
    .ret (fs++ms++b.2++dput o (match c.tup,b.1 with|false,[(ag,cs)]=> .one ag cs|_,xs=> .tup xs))
def h4x (o:Oper) (s:IntKind×(List Int->Nat)) (vs:List AV):Cm (List Up):=match vs with
 | [.one false [.ref l g none]]=> .obj l fun ob=>if ob.1=g then(match ob.2 with
  | .arr true false (.int ik) full=>if ik=s.1 then .test (decide (List.length (α:=Int) full<=1000000000000)) (.ret (.set l (g+1) (.arr true false (.int ik) (List.take (α:=Int) (s.2 full) full))::dput o (.one false [.ref l (g+1) none]))) .fail else .fail
  |_=> .fail)else .fail
 |_=> .fail
def h4y (o:Oper) (op:BinOp) (t:Nat) (y:Operand) (vx vy:AV):Cm (List Up):=match vx with
 | .one false [.er b]=>if f7o y=true then c7z cx t fun d=>if d.k= .er then(match op with
   | .eql=> .ret (dput o (vl (.bool !b)))
   | .neq=> .ret (dput o (vl (.bool b)))
   |_=> .fail)else .fail else .fail
 | .one false [.v (.bool p)]=>sgv vy fun b=>(match b with
   | .bool q=>c7z cx t fun d=>if d.k= .bool then(match op with
     | .eql=> .ret (dput o (vl (.bool (p==q))))
     | .neq=> .ret (dput o (vl (.bool !(p==q))))
     |_=> .fail)else .fail
   |_=> .fail)
 |_=>sgv vx fun a=>sgv vy fun b=>(bin op a b).bind fun r=> .ret (dput o (vl r))
def b9k (ys:List Int):ByteArray:=⟨(ys.map fun n=>UInt8.ofNat n.toNat).toArray⟩
def g9e (o:Oper) (s t:Nat) (a:A0):Cm (List Up):=c7z cx s fun ds=>c7z cx t fun dt=>match dt.k,ds.k,a with
 | .int k,_, .v (.int _ n)=> .ret (dput o (vl (.int k (k.wrap n))))
 | .str,_, .v (.string s)=> .ret (dput o (vl (.string s)))
 | .str, .sl (.int .u8),x=>e8i cx s fun e=>if e.k= .int .u8 then tail (.int .u8) x fun ys=> .ret (dput o (vl (.string (b9k ys))))else .fail
 |_,_,_=> .fail
def mnx (mx:Bool) (x y:Int):Int:=if mx=true then(if x<y then y else x)else(if y<x then y else x)
def svK:Kd->Kd
 | .sl k=> .sv k
 |k=>k
def kAt (o:Oper) (k:Kd):Kd:=if(cx.rowsAt.any fun x=>Nat.beq x (o.dst.getD 0))=true then svK k else k
def h4q (o:Oper):Bool:=cx.rowsAt.any fun x=>Nat.beq x (o.dst.getD 0+1000000)
def f2k (o:Oper) (e:Td) (n:Nat) (vs:List (Nat×AV)):Cm (List Up):=match e.k,vs with
 | .sl k,[]=>if n=0 then new o 0 (ao0 true k []) fun g=> .ret (dput o (.one false [.ref (nm o 0) g none]))else .fail
 | .sl k,[(0, .one false [.ref l2 g2 vw])]=>if n=1/\a0v vw=0/\nm o 0≠l2 then .obj l2 fun o2=>if o2.1=g2 then(match o2.2 with
   | .arr true false k2 full=>if h:k2=k then new o 0 (ao0 true k [(a5b (k':= .sl k2) (k:= .sl k) (by rw[h]) full,a1h full vw)]) fun g=> .ret (.set l2 (g2+1) .no::dput o (.one false [.ref (nm o 0) g none]))else .fail
   |_=> .fail)else .fail else .fail
 |_,_=> .fail
def step (o:Oper):Cm (List Up):=match o.op with
 | .move x| .assign x=>(b0v x).bind fun v=> .ret (dput o v)
 | .pick c a b=>(b0v c).bind fun vc=>sgv vc fun
   | .bool t=> .test t ((b0v a).bind fun v=> .ret (dput o v)) ((b0v b).bind fun v=> .ret (dput o v))
   |_=> .fail
 | .binOp op t x y _=>(b0v x).bind fun vx=>(b0v y).bind fun vy=>h4y cx o op t y vx vy
 | .unOp op _ x=>(b0v x).bind fun vx=>sgv vx fun a=>(un op a).bind fun r=> .ret (dput o (vl r))
 | .extract t i=>(b0v t).bind fun
   | .tup xs=>(match xs[i]? with|some p=> .ret (dput o (.one p.1 p.2))|none=> .fail)
   |_=> .fail
 | .nilCheck x=>(b0v x).bind fun v=>match v with
   | .one false [.pt _ _ _]=> .ret (dput o v)
   | .one false [.pm _ _]=> .ret (dput o v)
   |_=> .fail
 | .convert s t x=>(b0v x).bind fun vx=>sg vx fun a=>g9e cx o s t a
 | .index t x i=>(b0v x).bind fun vx=>(b0v i).bind fun vi=>sgv vx fun a=>sgi vi fun i=>c7z cx t fun d=>match d.k,a with
   | .str, .string s=> .test (decide (0<=i)) (.test (decide (i<(s.size:Int))) (.ret (dput o (vl (.int .u8 (a2h s i))))) .fail) .fail
   |_,_=> .fail
 | .slice t x lo hi none=>(b0v x).bind fun vx=>(e8x lo).bind fun l=>(e8x hi).bind fun h=>sg vx fun a=>f7s cx o t a l h
 | .indexAddr t x i=>(b0v x).bind fun vx=>(b0v i).bind fun vi=>sg vx fun a=>sgi vi fun i=>c5s cx o t a i
 | .fieldAddr s x f=>(b0v x).bind fun vx=>sg vx fun a=>c7z cx s fun d=>if d.ag=true then(match d.fs[f]? with
   |some (off,ft)=>c7z cx ft fun _=>(match a with
     | .pt fl k x=>(match sub k off x with|some ⟨k',x'⟩=> .ret (dput o (.one false [.pt fl k' x']))|none=> .fail)
     | .pm k x=>(match sub k off x with|some ⟨k',x'⟩=> .ret (dput o (.one false [.pm k' x']))|none=> .fail)
     | .pv l g j=> .obj l fun ob=>if ob.1=g then(match ob.2 with| .vars _=> .ret (dput o (.one false [.pv l g (j+off)]))|_=> .fail)else .fail
     | .pa l g i j=> .obj l fun ob=>if ob.1=g then(match ob.2 with| .arr _ _ _ _=> .ret (dput o (.one false [.pa l g i (j+off)]))|_=> .fail)else .fail
     | .pr l g rg i e j=> .obj l fun ob=>if ob.1=g then(match ob.2 with| .rows _ _ rg' _ _=>if rg'=rg then .ret (dput o (.one false [.pr l g rg i e (j+off)]))else .fail|_=> .fail)else .fail
     |_=> .fail)
   |none=> .fail)else .fail
 | .load t a=>(b0v a).bind fun va=>sg va fun a=>g9a cx o t a
 | .store t a x=>if o.dst.isSome=true then .fail else(b0v a).bind fun va=>(b0v x).bind fun vx=>sg va fun a=>f7p cx t a vx
 | .alloc t=>c7z cx t fun d=>(match d.k.zero with
   |some cs=>new o 0 (.vars (cs.map .v)) fun g=> .ret (dput o (.one false [.pv (nm o 0) g 0]))
   |none=> .fail)
 | .box t x=>(b0v x).bind fun vx=>c7z cx t fun d=>if(cellsOf vx).length=d.k.sz/\b7s (cellsOf vx)=true then
   new o 0 (.vars (cellsOf vx)) fun g=> .ret (dput o (.one false [.pv (nm o 0) g 0]))else .fail
 | .build t ps=>c7z cx t fun d=>if d.ag=true then(e8y ps.toList).bind fun vs=>(match d.k.zero with
   |some cs=>(f7q cx d.fs (cs.map .v) vs).bind fun cs=> .ret (dput o (.one true cs))
   |none=> .fail)else .fail
 | .buildSlice t n ps=>e8i cx t fun e=>(e8y ps.toList).bind fun vs=>if h4q cx o=true then f2k o e n vs else if vs.length=n/\n*e.k.sz<=16777216/\e.k.zero.isSome=true then
   (f7r e.k vs 0).bind fun p=>(b9j p.fr).bind fun fs=>
    (new o 0 (.arr true false e.k p.x) fun g=> .ret (dput o (.one false [.ref (nm o 0) g none]))).bind fun us=> .ret (fs++us)else .fail
 | .makeSlice t on oc=>(b0v on).bind fun vn=>(b0v oc).bind fun vc=>sgi vn fun n=>sgi vc fun c=>e8i cx t fun e=>if e.bytes=0 then .fail else
   .test (decide (0<=n)) (.test (decide (n<=c)) (.test (decide (c*(e.bytes:Int)<=281474976710656)) (if h4q cx o=true then(match e.k with
    | .sl k=>new o 0 (ao0 true k (List.replicate c.toNat ([],0))) fun g=> .ret (dput o (.one false [.ref (nm o 0) g (if d7c on oc then none else some (0,n.toNat))]))
    |_=> .fail)else match e.k.zero with
    |some _=>new o 0 (.arr true false (kAt cx o e.k) (List.replicate c.toNat (kAt cx o e.k).dflt)) fun g=> .ret (dput o (.one false [.ref (nm o 0) g (if d7c on oc then none else some (0,n.toNat))]))
    |none=> .fail) .fail) .fail) .fail
 | .call c=>(g3o c.args.toList).bind fun vs=>match c.callee with
   | .builtin .len=>(match c.argTypes[0]?,vs with|some t,[v]=>sg v fun a=>sLen cx o t a|_,_=> .fail)
   | .builtin .append=>(match c.argTypes.toList,vs with| [t,t'],[s,x]=>if t=t' then sg s fun s=>sg x fun x=>e8z cx o t s x else .fail|_,_=> .fail)
   | .builtin .copy=>(match c.argTypes[0]?,vs with|some t,[s,x]=>sg s fun s=>sg x fun x=>g9b cx o t s x|_,_=> .fail)
   | .builtin .min=>(match vs with| [.one false [.v (.int k a)], .one false [.v (.int k' b)]]=>if k=k' then .ret (dput o (vl (.int k (mnx false a b))))else .fail|_=> .fail)
   | .builtin .max=>(match vs with| [.one false [.v (.int k a)], .one false [.v (.int k' b)]]=>if k=k' then .ret (dput o (vl (.int k (mnx true a b))))else .fail|_=> .fail)
   | .value f=>(b0v f).bind fun vf=>match h2w vf with
     |some f=>(match d6x f cx.shr with|some s=>h4x o s vs|none=>g9d cx o f vs)
     |none=> .fail
   |_=> .fail
 |_=> .fail
end
end Go.Cm
